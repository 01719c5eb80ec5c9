-- Written by this claim's own program over the kit's print.
import Derived.Test.YtkaiibipcnlaiaaHEllb
import Derived.Test.YtkaiibipcnlaiaaHEllx0
import Derived.Test.YtkaiibipcnlaiaaHEllx2
import Derived.Test.YtkaiibipcnlaiaaHEllx5
import Derived.Test.YtkaiibipcnlaiaaHEllx14
import Derived.Test.YtkaiibipcnlaiaaM2
import Derived.StillTailTactics
import Derived.Laws.Externs
import Derived.BigFrameIn
import Derived.Lib.Hide
import Derived.Sort.LoopGhostIn
import Derived.BigQuiet
import Derived.Test.YtkaiibipcnlaiaaHEllb
namespace Go.Proofs.Ytkaiibipcnlaiaa.HEll
open Go.RowKit Go.Proofs.YtkaiibipcnlaiaaW.PrintWords Go.Proofs.YtkaiibipcnlaiaaW.PrintLast Go.Proofs.YtkaiibipcnlaiaaW.PrintMore Go.Proofs.Ytkaiibipcnlaiaa.Hand
attribute [local go_sem] max2_int min2_int max_two min_two max_three min_three max_four min_four   -- for this text's walks alone
set_option linter.unusedVariables false
set_option linter.unusedSimpArgs false

/-! ### stickfullaw26_cuts: function 42 -/
def stickfullaw26_cuts.l0 : Nat → Int → List (S78) → List (S53) → Int → Option (Int × Int × Bool)
 | 0, _, _, _, _ => none
 | k + 1, x0, x5, x6, x7 => if x7 < 6 then (if x7 = 3 then (if x5.length < 3518437208883 then (if x6.length < 3518437208883 then (stickfullaw26_cuts.l0 k x0 (x5 ++ [(⟨769, 0, 0, 0, 0⟩ : S78)]) (x6 ++ [(⟨0, 0, x7, 10, false, false⟩ : S53)]) (wrap64 (x7 + 1))) else (none)) else (none)) else (if x5.length < 3518437208883 then (if x6.length < 3518437208883 then (stickfullaw26_cuts.l0 k x0 (x5 ++ [(⟨97, 0, 0, 0, 0⟩ : S78)]) (x6 ++ [(⟨0, 0, x7, 10, false, false⟩ : S53)]) (wrap64 (x7 + 1))) else (none)) else (none))) else ((ellipsis_Whole.f k x5 x6).bind fun bt160 => ((ellipsis_Cut.f x6 bt160.1 0 6 false x0 0 10).bind fun bt164 => (if bt164.2.2.2 = 0 then (some (bt164.1, bt164.2.1, bt164.2.2.1)) else (some ((-1), 0, false)))))
def stickfullaw26_cuts.f (k : Nat) (a0 : Int) : Option (Int × Int × Bool) := stickfullaw26_cuts.l0 k a0 ([] : List (S78)) ([] : List (S53)) 0
theorem stickfullaw26_cuts.mono_l : ∀ k, (∀ y0 y1 y2 y3, LeO (stickfullaw26_cuts.l0 k y0 y1 y2 y3) (stickfullaw26_cuts.l0 (k + 1) y0 y1 y2 y3))
 | 0 => fun _ _ _ _ r h => by simp [stickfullaw26_cuts.l0] at h
 | k + 1 => by
  have ih0 := stickfullaw26_cuts.mono_l k
  ·intro y0 y1 y2 y3
   unfold stickfullaw26_cuts.l0
   repeat' first
   | (with_reducible exact ih0 _ _ _ _)
   | (with_reducible exact ellipsis_Whole.mono _ _ _)
   | (with_reducible exact LeO.refl _)
   | (with_reducible exact LeO.none _)
   | (with_reducible refine LeO.ite ?_ ?_)
   | (with_reducible refine LeO.bind ?_ (fun _ => ?_))
   | exact ih0 _ _ _ _
   | exact ellipsis_Whole.mono _ _ _
   | exact LeO.none _
   | refine LeO.ite ?_ ?_
   | refine LeO.bind ?_ (fun _ => ?_)
theorem stickfullaw26_cuts.mono : ∀ a0 k, LeO (stickfullaw26_cuts.f k a0) (stickfullaw26_cuts.f (k + 1) a0) := by
 intro a0 k
 have ih0 := stickfullaw26_cuts.mono_l k
 unfold stickfullaw26_cuts.f
 repeat' first
   | (with_reducible exact ih0 _ _ _ _)
   | (with_reducible exact ellipsis_Whole.mono _ _ _)
   | (with_reducible exact LeO.refl _)
   | (with_reducible exact LeO.none _)
   | (with_reducible refine LeO.ite ?_ ?_)
   | (with_reducible refine LeO.bind ?_ (fun _ => ?_))
   | exact ih0 _ _ _ _
   | exact ellipsis_Whole.mono _ _ _
   | exact LeO.none _
   | refine LeO.ite ?_ ?_
   | refine LeO.bind ?_ (fun _ => ?_)
set_option maxHeartbeats 8000000 in
set_option maxRecDepth 100000 in
theorem stickfullaw26_cuts.calls (k : Nat) (a0 r1 r2 : Int) (r3 : Bool) (w : World) (h : stickfullaw26_cuts.f k a0 = some (r1, r2, r3)) :
  Calls Try.prog 42 #[.int .i64 a0] w fun e w' => e = .returned (.tuple #[.int .i64 r1, .int .i64 r2, .bool r3]) ∧ Below w.heap.size w w' := by
 have hu78 := Try.underlying78
 have hu53 := Try.underlying53
 have hu25 := Try.underlying25
 have hu29 := Try.underlying29
 have HB := Aside0.mk (Below.refl w.heap.size w)
 have H : (stickfullaw26_cuts.l0 k a0 ([] : List (S78)) ([] : List (S53)) 0) = some (r1, r2, r3) := h
 clear h
 have H' := Aside0.mk H
 clear H
 go_enter Try.func42, Try.ntmps42
 go_wp2
 go_loopg [5, 6, 7] k (fun kq v5 v6 v7 w' => ∃ (x5_1 : List (S78)) (x6_1 : List (S53)) (x7_1 : Int), v7 = .int .i64 x7_1 ∧ Aside0 (stickfullaw26_cuts.l0 kq a0 x5_1 x6_1 x7_1 = some (r1, r2, r3)) ∧ Aside0 (kq ≤ k) ∧ Aside0 (Kd.R k78 78 w' w.heap.size (fun _ => True) v5 x5_1) ∧ Aside0 (Kd.R k53 53 w' w.heap.size (fun _ => True) v6 x6_1) ∧ Aside0 (Below w.heap.size w w'))
 case atStart => exact ⟨(([] : List (S78))), (([] : List (S53))), (0), (by first | rfl | (simp; done) | (simp [*]; done)), H', ⟨Nat.le_refl _⟩, ⟨by first | exact Kd.R_nil _ _ _ _ _ | exact Kd.N_nil _ _ _ _ _ | exact Kd.V_nil _ _ _ _ _ | exact Kd.Q_nil _ _ _ _ _ | exact Kd.S_nil _ _ _ _ _⟩, ⟨by first | exact Kd.R_nil _ _ _ _ _ | exact Kd.N_nil _ _ _ _ _ | exact Kd.V_nil _ _ _ _ _ | exact Kd.Q_nil _ _ _ _ _ | exact Kd.S_nil _ _ _ _ _⟩, ⟨by repeat (first | (with_reducible first | exact HB.out | apply below_alloc | apply pw_below_drewN | apply below_drew1) | exact HB.out)⟩⟩
 case round =>
  clear H'
  obtain ⟨x5_1, x6_1, x7_1, rfl, HA, HK1, HO_5, HO_6, HB⟩ := hrel
  cases gk with
  | zero => exact absurd HA.out (by simp [stickfullaw26_cuts.l0])
  | succ k1 =>
   have H := HA.out
   clear HA
   simp only [stickfullaw26_cuts.l0] at H
   by_cases c2 : x7_1 < 6
   ·rw [if_pos c2] at H
    have c2b0 : decide (x7_1 < 6) = true := decide_eq_true c2
    clear c2
    by_cases c3 : x7_1 = 3
    ·rw [if_pos c3] at H
     have c3b0 : (x7_1 == 3) = true := beq_iff_eq.mpr c3
     have c3b1 : (x7_1 != 3) = false := bne_eq_false_iff_eq.mpr c3
     clear c3
     by_cases c4 : x5_1.length < 3518437208883
     ·rw [if_pos c4] at H
      have LMc4 := Aside0.mk c4
      clear c4
      obtain ⟨y148, hy148⟩ : ∃ y_ : List (S78), y_ = (x5_1 ++ [(⟨769, 0, 0, 0, 0⟩ : S78)]) := ⟨_, rfl⟩
      replace H : (if x6_1.length < 3518437208883 then (stickfullaw26_cuts.l0 k1 a0 y148 (x6_1 ++ [(⟨0, 0, x7_1, 10, false, false⟩ : S53)]) (wrap64 (x7_1 + 1))) else (none)) = some (r1, r2, r3) := by first | (rw [hy148]; with_reducible exact H) | (have H2_ := (Option.bind_some _ _).symm.trans H; rw [hy148]; with_reducible exact H2_) | (have H2_ := (Option.bind_some _ _).symm.trans H; with_reducible exact H2_) | with_reducible exact H | (rw [hy148]; exact H) | exact H
      have Ny148 := Aside0.mk hy148
      clear hy148
      by_cases c5 : x6_1.length < 3518437208883
      ·rw [if_pos c5] at H
       have LMc5 := Aside0.mk c5
       clear c5
       obtain ⟨y151, hy151⟩ : ∃ y_ : List (S53), y_ = (x6_1 ++ [(⟨0, 0, x7_1, 10, false, false⟩ : S53)]) := ⟨_, rfl⟩
       replace H : (stickfullaw26_cuts.l0 k1 a0 y148 y151 (wrap64 (x7_1 + 1))) = some (r1, r2, r3) := by first | (rw [hy151]; with_reducible exact H) | (have H2_ := (Option.bind_some _ _).symm.trans H; rw [hy151]; with_reducible exact H2_) | (have H2_ := (Option.bind_some _ _).symm.trans H; with_reducible exact H2_) | with_reducible exact H | (rw [hy151]; exact H) | exact H
       have Ny151 := Aside0.mk hy151
       clear hy151
       have H' := Aside0.mk H
       clear H
       go_wp2_with (first | ((with_reducible refine gate_dst (N := 8) rfl ?_); refine box_event ?hg (N := 8) ?hd (cs := #[.int .i32 0, .int .i64 0, .int .i64 0, .int .i64 0, .int .u8 0]) (t := 78) ?hr ?_; (case hd => rfl); (case hg => rfl); (case hr => first | (go_simp; done) | (go_simp; rfl)); intro gb147 hg w6 hbox hb; replace HO_5 := Aside0.mk (Kd.R_below (Kd.R_elderB (rx HO_5) gb147 (Nat.le_of_eq hg.symm)) hb); replace HO_6 := Aside0.mk (Kd.R_below (rx HO_6) hb); have BK147 := Aside0.mk (hbox); have GW147 := bge HB hg; have GE147 := bge HB hg; replace HB := bh HB hb; clear hb hbox hg; obtain ⟨hcz7_0, hcz7_1, hcz7_2, hcz7_3, hcz7_4⟩ := cz5 BK147; obtain ⟨hfz7_0, hfz7_1, hfz7_2, hfz7_3, hfz7_4⟩ := fz5 BK147) | ((with_reducible refine gate_builtin (b := .append) (xs := #[.tmp 23, .tmp 25]) rfl ?_); at_builtin; refine Kd.R_append k78 (w0 := w) w.heap.size rfl (.tmp 23) (.tmp 25) 44 78 (.agg #[(.int .i32 0), (.int .i64 0), (.int .i64 0), (.int .i64 0), (.int .u8 0)]) 40 rfl Try.underlying44 info78 rfl (by decide) (by omega) u5 x5_1 (⟨769, 0, 0, 0, 0⟩ : S78) [.int .i32 769, .int .i64 0, .int .i64 0, .int .i64 0, .int .u8 0] (fun k_ => k_ ≠ gb147) (fun _ => False) rfl (by first | (go_simp; done) | (go_simp; rfl)) ?aP (fun _ hk => hk.elim) ?aF ?aO ?aB ?aS ?aL ?_; (case aP => exact k78_mkM _ _ _ (⟨769, 0, 0, 0, 0⟩ : S78)); (case aB => exact (bw HB)); (case aF => exact (fun k_ hk => Kd.freshB (o := .cells #[.int .i32 769, .int .i64 0, .int .i64 0, .int .i64 0, .int .u8 0] 78 (0, 0)) (bp BK147) k_ hk)); (case aO => exact (by (with_reducible repeat (first | apply Kd.R_alloc | apply Kd.R_drewN | apply Kd.R_drew)); exact Kd.R_mono (Kd.R_far (p := ⟨gb147, 0, none⟩) (Kd.R_far (p := ⟨gb147, 4, none⟩) (Kd.R_far (p := ⟨gb147, 3, none⟩) (Kd.R_far (p := ⟨gb147, 2, none⟩) (Kd.R_far (p := ⟨gb147, 1, none⟩) (Kd.R_far (p := ⟨gb147, 0, none⟩) (Kd.R_mono HO_5.out (fun k_ hk => (⟨hk, hk.2⟩ : _ ∧ k_ ≠ gb147))) (fun _ hk => hk.2) (.int .i32 97)) (fun _ hk => hk.2) (.int .i64 0)) (fun _ hk => hk.2) (.int .i64 0)) (fun _ hk => hk.2) (.int .i64 0)) (fun _ hk => hk.2) (.int .u8 0)) (fun _ hk => hk.2) (.int .i32 769)) (fun _ hk => hk.1.2))); (case aS => exact (below_size (bw HB))); (case aL => have := LMc4.out; omega); intro v149 w8 ho hb hg hat; rw [← Ny148.out] at ho; replace HO_6 := Aside0.mk (Kd.R_over' (by (with_reducible repeat (first | apply Kd.R_alloc | apply Kd.R_drewN | apply Kd.R_drew)); exact (Kd.R_mono (Kd.R_far (p := ⟨gb147, 0, none⟩) (Kd.R_far (p := ⟨gb147, 4, none⟩) (Kd.R_far (p := ⟨gb147, 3, none⟩) (Kd.R_far (p := ⟨gb147, 2, none⟩) (Kd.R_far (p := ⟨gb147, 1, none⟩) (Kd.R_far (p := ⟨gb147, 0, none⟩) (Kd.R_types HO_6.out BK147.out (by decide)) (fun _ hk => hk.2) (.int .i32 97)) (fun _ hk => hk.2) (.int .i64 0)) (fun _ hk => hk.2) (.int .i64 0)) (fun _ hk => hk.2) (.int .i64 0)) (fun _ hk => hk.2) (.int .u8 0)) (fun _ hk => hk.2) (.int .i32 769)) (fun _ h_ => h_.1))) (Kd.R_typed (by (with_reducible repeat (first | apply Kd.R_alloc | apply Kd.R_drewN | apply Kd.R_drew)); exact (Kd.R_mono (Kd.R_far (p := ⟨gb147, 0, none⟩) (Kd.R_far (p := ⟨gb147, 4, none⟩) (Kd.R_far (p := ⟨gb147, 3, none⟩) (Kd.R_far (p := ⟨gb147, 2, none⟩) (Kd.R_far (p := ⟨gb147, 1, none⟩) (Kd.R_far (p := ⟨gb147, 0, none⟩) (Kd.R_mono HO_5.out (fun k_ hk => (⟨hk, hk.2⟩ : _ ∧ k_ ≠ gb147))) (fun _ hk => hk.2) (.int .i32 97)) (fun _ hk => hk.2) (.int .i64 0)) (fun _ hk => hk.2) (.int .i64 0)) (fun _ hk => hk.2) (.int .i64 0)) (fun _ hk => hk.2) (.int .u8 0)) (fun _ hk => hk.2) (.int .i32 769)) (fun _ h_ => h_.1)))) (by decide) hg); replace BK147 := Aside0.mk (blk_grown (o := .cells #[.int .i32 769, .int .i64 0, .int .i64 0, .int .i64 0, .int .u8 0] 78 (0, 0)) (bp BK147) hg (Kd.R_away HO_5.out (fun _ hk => hk.2))); replace HB := Aside0.mk (hb); have HO150 := Aside0.mk (ho); clear HO_5; clear ho hb hg hat) | ((with_reducible refine gate_builtin (b := .append) (xs := #[.tmp 27, .tmp 30]) rfl ?_); at_builtin; refine Kd.R_append k53 (w0 := w) w.heap.size rfl (.tmp 27) (.tmp 30) 22 53 (.agg #[(.int .u8 0), (.int .i64 0), (.int .i64 0), (.int .i64 0), (.bool false), (.bool false)]) 40 rfl Try.underlying22 info53 rfl (by decide) (by omega) u6 x6_1 (⟨0, 0, x7_1, 10, false, false⟩ : S53) [.int .u8 0, .int .i64 0, .int .i64 x7_1, .int .i64 10, .bool false, .bool false] (fun _ => True) (fun _ => False) rfl rfl ?aP (fun _ hk => hk.elim) ?aF ?aO ?aB ?aS ?aL ?_; (case aP => exact k53_mkM _ _ _ (⟨0, 0, x7_1, 10, false, false⟩ : S53)); (case aB => exact (bw HB)); (case aF => exact (fun _ _ => trivial)); (case aO => exact (rx HO_6)); (case aS => exact (below_size (bw HB))); (case aL => have := LMc5.out; omega); intro v152 w9 ho hb hg hat; rw [← Ny151.out] at ho; replace BK147 := Aside0.mk (blk_grown (bx BK147) hg (by first | exact Kd.R_ne HO_6.out BK147.out (by decide) | exact (fun e => by have z := And.left HO_6.out _ e.symm; simp at z))); replace HO150 := Aside0.mk (Kd.R_over' (rx HO150) (Kd.R_typed (rx HO_6)) (by decide) hg); replace HB := Aside0.mk (hb); have HO153 := Aside0.mk (ho); clear HO_6; clear ho hb hg hat))
       go_roundg k1
       case measure => have := HK1.out; omega
       case rel => exact ⟨(y148), (y151), (wrap64 (x7_1 + 1)), (by first | rfl | (simp; done) | (simp [*]; done)), H', ⟨by have := HK1.out; omega⟩, ⟨by (with_reducible repeat (first | apply Kd.R_alloc | apply Kd.R_drewN | apply Kd.R_drew)); exact Kd.R_mono HO150.out (fun _ hk => trivial)⟩, ⟨by (with_reducible repeat (first | apply Kd.R_alloc | apply Kd.R_drewN | apply Kd.R_drew)); exact HO153.out⟩, ⟨by repeat (first | (with_reducible first | exact HB.out | apply below_alloc | apply pw_below_drewN | apply below_drew1 | refine below_set ?_ GE147.out) | exact HB.out)⟩⟩
      ·rw [if_neg c5] at H
       exact absurd H (by simp)
     ·rw [if_neg c4] at H
      exact absurd H (by simp)
    ·rw [if_neg c3] at H
     have c3b0 : (x7_1 == 3) = false := beq_eq_false_iff_ne.mpr c3
     have c3b1 : (x7_1 != 3) = true := bne_iff_ne.mpr c3
     by_cases c10 : x5_1.length < 3518437208883
     ·rw [if_pos c10] at H
      have LMc10 := Aside0.mk c10
      clear c10
      obtain ⟨y154, hy154⟩ : ∃ y_ : List (S78), y_ = (x5_1 ++ [(⟨97, 0, 0, 0, 0⟩ : S78)]) := ⟨_, rfl⟩
      replace H : (if x6_1.length < 3518437208883 then (stickfullaw26_cuts.l0 k1 a0 y154 (x6_1 ++ [(⟨0, 0, x7_1, 10, false, false⟩ : S53)]) (wrap64 (x7_1 + 1))) else (none)) = some (r1, r2, r3) := by first | (rw [hy154]; with_reducible exact H) | (have H2_ := (Option.bind_some _ _).symm.trans H; rw [hy154]; with_reducible exact H2_) | (have H2_ := (Option.bind_some _ _).symm.trans H; with_reducible exact H2_) | with_reducible exact H | (rw [hy154]; exact H) | exact H
      have Ny154 := Aside0.mk hy154
      clear hy154
      by_cases c11 : x6_1.length < 3518437208883
      ·rw [if_pos c11] at H
       have LMc11 := Aside0.mk c11
       clear c11
       obtain ⟨y157, hy157⟩ : ∃ y_ : List (S53), y_ = (x6_1 ++ [(⟨0, 0, x7_1, 10, false, false⟩ : S53)]) := ⟨_, rfl⟩
       replace H : (stickfullaw26_cuts.l0 k1 a0 y154 y157 (wrap64 (x7_1 + 1))) = some (r1, r2, r3) := by first | (rw [hy157]; with_reducible exact H) | (have H2_ := (Option.bind_some _ _).symm.trans H; rw [hy157]; with_reducible exact H2_) | (have H2_ := (Option.bind_some _ _).symm.trans H; with_reducible exact H2_) | with_reducible exact H | (rw [hy157]; exact H) | exact H
       have Ny157 := Aside0.mk hy157
       clear hy157
       have H' := Aside0.mk H
       clear H
       go_wp2_with (first | ((with_reducible refine gate_dst (N := 8) rfl ?_); refine box_event ?hg (N := 8) ?hd (cs := #[.int .i32 0, .int .i64 0, .int .i64 0, .int .i64 0, .int .u8 0]) (t := 78) ?hr ?_; (case hd => rfl); (case hg => rfl); (case hr => first | (go_simp; done) | (go_simp; rfl)); intro gb147 hg w12 hbox hb; replace HO_5 := Aside0.mk (Kd.R_below (Kd.R_elderB (rx HO_5) gb147 (Nat.le_of_eq hg.symm)) hb); replace HO_6 := Aside0.mk (Kd.R_below (rx HO_6) hb); have BK147 := Aside0.mk (hbox); have GW147 := bge HB hg; have GE147 := bge HB hg; replace HB := bh HB hb; clear hb hbox hg; obtain ⟨hcz13_0, hcz13_1, hcz13_2, hcz13_3, hcz13_4⟩ := cz5 BK147; obtain ⟨hfz13_0, hfz13_1, hfz13_2, hfz13_3, hfz13_4⟩ := fz5 BK147) | ((with_reducible refine gate_builtin (b := .append) (xs := #[.tmp 23, .tmp 25]) rfl ?_); at_builtin; refine Kd.R_append k78 (w0 := w) w.heap.size rfl (.tmp 23) (.tmp 25) 44 78 (.agg #[(.int .i32 0), (.int .i64 0), (.int .i64 0), (.int .i64 0), (.int .u8 0)]) 40 rfl Try.underlying44 info78 rfl (by decide) (by omega) u5 x5_1 (⟨97, 0, 0, 0, 0⟩ : S78) [.int .i32 97, .int .i64 0, .int .i64 0, .int .i64 0, .int .u8 0] (fun k_ => k_ ≠ gb147) (fun _ => False) rfl (by first | (go_simp; done) | (go_simp; rfl)) ?aP (fun _ hk => hk.elim) ?aF ?aO ?aB ?aS ?aL ?_; (case aP => exact k78_mkM _ _ _ (⟨97, 0, 0, 0, 0⟩ : S78)); (case aB => exact (bw HB)); (case aF => exact (fun k_ hk => Kd.freshB (o := .cells #[.int .i32 97, .int .i64 0, .int .i64 0, .int .i64 0, .int .u8 0] 78 (0, 0)) (bp BK147) k_ hk)); (case aO => exact (by (with_reducible repeat (first | apply Kd.R_alloc | apply Kd.R_drewN | apply Kd.R_drew)); exact Kd.R_mono (Kd.R_far (p := ⟨gb147, 4, none⟩) (Kd.R_far (p := ⟨gb147, 3, none⟩) (Kd.R_far (p := ⟨gb147, 2, none⟩) (Kd.R_far (p := ⟨gb147, 1, none⟩) (Kd.R_far (p := ⟨gb147, 0, none⟩) (Kd.R_mono HO_5.out (fun k_ hk => (⟨hk, hk.2⟩ : _ ∧ k_ ≠ gb147))) (fun _ hk => hk.2) (.int .i32 97)) (fun _ hk => hk.2) (.int .i64 0)) (fun _ hk => hk.2) (.int .i64 0)) (fun _ hk => hk.2) (.int .i64 0)) (fun _ hk => hk.2) (.int .u8 0)) (fun _ hk => hk.1.2))); (case aS => exact (below_size (bw HB))); (case aL => have := LMc10.out; omega); intro v155 w14 ho hb hg hat; rw [← Ny154.out] at ho; replace HO_6 := Aside0.mk (Kd.R_over' (by (with_reducible repeat (first | apply Kd.R_alloc | apply Kd.R_drewN | apply Kd.R_drew)); exact (Kd.R_mono (Kd.R_far (p := ⟨gb147, 4, none⟩) (Kd.R_far (p := ⟨gb147, 3, none⟩) (Kd.R_far (p := ⟨gb147, 2, none⟩) (Kd.R_far (p := ⟨gb147, 1, none⟩) (Kd.R_far (p := ⟨gb147, 0, none⟩) (Kd.R_types HO_6.out BK147.out (by decide)) (fun _ hk => hk.2) (.int .i32 97)) (fun _ hk => hk.2) (.int .i64 0)) (fun _ hk => hk.2) (.int .i64 0)) (fun _ hk => hk.2) (.int .i64 0)) (fun _ hk => hk.2) (.int .u8 0)) (fun _ h_ => h_.1))) (Kd.R_typed (by (with_reducible repeat (first | apply Kd.R_alloc | apply Kd.R_drewN | apply Kd.R_drew)); exact (Kd.R_mono (Kd.R_far (p := ⟨gb147, 4, none⟩) (Kd.R_far (p := ⟨gb147, 3, none⟩) (Kd.R_far (p := ⟨gb147, 2, none⟩) (Kd.R_far (p := ⟨gb147, 1, none⟩) (Kd.R_far (p := ⟨gb147, 0, none⟩) (Kd.R_mono HO_5.out (fun k_ hk => (⟨hk, hk.2⟩ : _ ∧ k_ ≠ gb147))) (fun _ hk => hk.2) (.int .i32 97)) (fun _ hk => hk.2) (.int .i64 0)) (fun _ hk => hk.2) (.int .i64 0)) (fun _ hk => hk.2) (.int .i64 0)) (fun _ hk => hk.2) (.int .u8 0)) (fun _ h_ => h_.1)))) (by decide) hg); replace BK147 := Aside0.mk (blk_grown (o := .cells #[.int .i32 97, .int .i64 0, .int .i64 0, .int .i64 0, .int .u8 0] 78 (0, 0)) (bp BK147) hg (Kd.R_away HO_5.out (fun _ hk => hk.2))); replace HB := Aside0.mk (hb); have HO156 := Aside0.mk (ho); clear HO_5; clear ho hb hg hat) | ((with_reducible refine gate_builtin (b := .append) (xs := #[.tmp 27, .tmp 30]) rfl ?_); at_builtin; refine Kd.R_append k53 (w0 := w) w.heap.size rfl (.tmp 27) (.tmp 30) 22 53 (.agg #[(.int .u8 0), (.int .i64 0), (.int .i64 0), (.int .i64 0), (.bool false), (.bool false)]) 40 rfl Try.underlying22 info53 rfl (by decide) (by omega) u6 x6_1 (⟨0, 0, x7_1, 10, false, false⟩ : S53) [.int .u8 0, .int .i64 0, .int .i64 x7_1, .int .i64 10, .bool false, .bool false] (fun _ => True) (fun _ => False) rfl rfl ?aP (fun _ hk => hk.elim) ?aF ?aO ?aB ?aS ?aL ?_; (case aP => exact k53_mkM _ _ _ (⟨0, 0, x7_1, 10, false, false⟩ : S53)); (case aB => exact (bw HB)); (case aF => exact (fun _ _ => trivial)); (case aO => exact (rx HO_6)); (case aS => exact (below_size (bw HB))); (case aL => have := LMc11.out; omega); intro v158 w15 ho hb hg hat; rw [← Ny157.out] at ho; replace BK147 := Aside0.mk (blk_grown (bx BK147) hg (by first | exact Kd.R_ne HO_6.out BK147.out (by decide) | exact (fun e => by have z := And.left HO_6.out _ e.symm; simp at z))); replace HO156 := Aside0.mk (Kd.R_over' (rx HO156) (Kd.R_typed (rx HO_6)) (by decide) hg); replace HB := Aside0.mk (hb); have HO159 := Aside0.mk (ho); clear HO_6; clear ho hb hg hat))
       go_roundg k1
       case measure => have := HK1.out; omega
       case rel => exact ⟨(y154), (y157), (wrap64 (x7_1 + 1)), (by first | rfl | (simp; done) | (simp [*]; done)), H', ⟨by have := HK1.out; omega⟩, ⟨by (with_reducible repeat (first | apply Kd.R_alloc | apply Kd.R_drewN | apply Kd.R_drew)); exact Kd.R_mono HO156.out (fun _ hk => trivial)⟩, ⟨by (with_reducible repeat (first | apply Kd.R_alloc | apply Kd.R_drewN | apply Kd.R_drew)); exact HO159.out⟩, ⟨by repeat (first | (with_reducible first | exact HB.out | apply below_alloc | apply pw_below_drewN | apply below_drew1 | refine below_set ?_ GE147.out) | exact HB.out)⟩⟩
      ·rw [if_neg c11] at H
       exact absurd H (by simp)
     ·rw [if_neg c10] at H
      exact absurd H (by simp)
   ·rw [if_neg c2] at H
    have c2b0 : decide (x7_1 < 6) = false := decide_eq_false c2
    clear c2
    replace H := Option.bind_eq_some_iff.mp H
    obtain ⟨⟨t160, t161⟩, A160, H⟩ := H
    replace H : ((ellipsis_Cut.f x6_1 t160 0 6 false a0 0 10).bind fun bt164 => (if bt164.2.2.2 = 0 then (some (bt164.1, bt164.2.1, bt164.2.2.1)) else (some ((-1), 0, false)))) = some (r1, r2, r3) := H
    have A16 := Aside0.mk A160
    clear A160
    replace H := Option.bind_eq_some_iff.mp H
    obtain ⟨⟨t164, t165, t166, t167⟩, A170, H⟩ := H
    replace H : (if t167 = 0 then (some (t164, t165, t166)) else (some ((-1), 0, false))) = some (r1, r2, r3) := H
    have A17 := Aside0.mk A170
    clear A170
    by_cases c18 : t167 = 0
    ·rw [if_pos c18] at H
     have c18b0 : (t167 == 0) = true := beq_iff_eq.mpr c18
     have c18b1 : (t167 != 0) = false := bne_eq_false_iff_eq.mpr c18
     clear c18
     simp only [Option.some.injEq, Prod.mk.injEq] at H
     obtain ⟨rfl, rfl, rfl⟩ := H
     obtain ⟨Ao19, co19, eo19⟩ := Kd.R_slice HO_5.out
     subst eo19
     obtain ⟨Ao20, co20, eo20⟩ := Kd.R_slice HO_6.out
     subst eo20
     go_wp2_with (first | ((with_reducible refine gate_callee (f := 15) rfl ?_); refine goesB (some 35) rfl rfl Try.func15 #[.slice Ao19 x5_1.length co19, .slice Ao20 x6_1.length co20] rfl ?_; (with_reducible refine (ellipsis_Whole.calls k1 _ _ x5_1 _ _ x6_1 t160 t161 _ ?side1 ?side2 ?side3 ?side4 A16.out).mono ?_); (case side1 => repeat (first | exact (Kd.R_reads' HO_5.out).2.2 | (with_reducible refine Kd.C_alloc ?_ _) | (with_reducible refine Kd.C_drewN ?_ _) | (with_reducible refine Kd.C_drew ?_))); (case side2 => exact (Kd.R_reads' HO_5.out).2.1); (case side3 => repeat (first | exact (Kd.R_reads' HO_6.out).2.2 | (with_reducible refine Kd.C_alloc ?_ _) | (with_reducible refine Kd.C_drewN ?_ _) | (with_reducible refine Kd.C_drew ?_))); (case side4 => exact (Kd.R_reads' HO_6.out).2.1); rintro e w21 ⟨v162, rfl, ho0, hb⟩; refine ⟨_, rfl, ?_⟩; replace HO_5 := Aside0.mk (Kd.R_below (rx HO_5) hb); replace HO_6 := Aside0.mk (Kd.R_below (rx HO_6) hb); have HO163 := Aside0.mk (Kd.R_lower ho0 (below_size (bw HB))); replace HB := bh HB hb; (try clear hb); (try clear hb2); (try clear hk); (try clear hi); (try clear ho0); obtain ⟨Ao22, co22, eo22⟩ := Kd.R_slice HO163.out; subst eo22) | ((with_reducible refine gate_callee (f := 10) rfl ?_); refine goesB (some 44) rfl rfl Try.func10 #[.slice Ao20 x6_1.length co20, .slice Ao22 t160.length co22, .agg #[.int .i64 0, .int .i64 6, .bool false], .agg #[.int .i64 a0, .int .i64 0], .int .i64 10] rfl ?_; (with_reducible refine (ellipsis_Cut.calls _ _ x6_1 _ _ t160 0 6 false a0 0 10 t164 t165 t166 t167 _ ?side1 ?side2 ?side3 ?side4 A17.out).mono ?_); (case side1 => repeat (first | exact (Kd.R_reads' HO_6.out).2.2 | (with_reducible refine Kd.C_alloc ?_ _) | (with_reducible refine Kd.C_drewN ?_ _) | (with_reducible refine Kd.C_drew ?_))); (case side2 => exact (Kd.R_reads' HO_6.out).2.1); (case side3 => repeat (first | exact (Kd.R_reads' HO163.out).2.2 | (with_reducible refine Kd.C_alloc ?_ _) | (with_reducible refine Kd.C_drewN ?_ _) | (with_reducible refine Kd.C_drew ?_))); (case side4 => exact (Kd.R_reads' HO163.out).2.1); rintro e w23 ⟨rfl, hb⟩; refine ⟨_, rfl, ?_⟩; replace HO_5 := Aside0.mk (Kd.R_below (rx HO_5) hb); replace HO_6 := Aside0.mk (Kd.R_below (rx HO_6) hb); replace HO163 := Aside0.mk (Kd.R_below (rx HO163) hb); replace HB := bh HB hb; (try clear hb); (try clear hb2); (try clear hk); (try clear hi)))
     go_ret3
     exact ⟨by first | rfl | (simp [errW_none, errW_some] <;> rfl) | (simp [*, errW_none, errW_some] <;> rfl), by repeat (first | (with_reducible first | exact HB.out | apply below_alloc | apply pw_below_drewN | apply below_drew1) | exact HB.out)⟩
    ·rw [if_neg c18] at H
     have c18b0 : (t167 == 0) = false := beq_eq_false_iff_ne.mpr c18
     have c18b1 : (t167 != 0) = true := bne_iff_ne.mpr c18
     simp only [Option.some.injEq, Prod.mk.injEq] at H
     obtain ⟨rfl, rfl, rfl⟩ := H
     obtain ⟨Ao24, co24, eo24⟩ := Kd.R_slice HO_5.out
     subst eo24
     obtain ⟨Ao25, co25, eo25⟩ := Kd.R_slice HO_6.out
     subst eo25
     go_wp2_with (first | ((with_reducible refine gate_callee (f := 15) rfl ?_); refine goesB (some 35) rfl rfl Try.func15 #[.slice Ao24 x5_1.length co24, .slice Ao25 x6_1.length co25] rfl ?_; (with_reducible refine (ellipsis_Whole.calls k1 _ _ x5_1 _ _ x6_1 t160 t161 _ ?side1 ?side2 ?side3 ?side4 A16.out).mono ?_); (case side1 => repeat (first | exact (Kd.R_reads' HO_5.out).2.2 | (with_reducible refine Kd.C_alloc ?_ _) | (with_reducible refine Kd.C_drewN ?_ _) | (with_reducible refine Kd.C_drew ?_))); (case side2 => exact (Kd.R_reads' HO_5.out).2.1); (case side3 => repeat (first | exact (Kd.R_reads' HO_6.out).2.2 | (with_reducible refine Kd.C_alloc ?_ _) | (with_reducible refine Kd.C_drewN ?_ _) | (with_reducible refine Kd.C_drew ?_))); (case side4 => exact (Kd.R_reads' HO_6.out).2.1); rintro e w26 ⟨v162, rfl, ho0, hb⟩; refine ⟨_, rfl, ?_⟩; replace HO_5 := Aside0.mk (Kd.R_below (rx HO_5) hb); replace HO_6 := Aside0.mk (Kd.R_below (rx HO_6) hb); have HO163 := Aside0.mk (Kd.R_lower ho0 (below_size (bw HB))); replace HB := bh HB hb; (try clear hb); (try clear hb2); (try clear hk); (try clear hi); (try clear ho0); obtain ⟨Ao27, co27, eo27⟩ := Kd.R_slice HO163.out; subst eo27) | ((with_reducible refine gate_callee (f := 10) rfl ?_); refine goesB (some 44) rfl rfl Try.func10 #[.slice Ao25 x6_1.length co25, .slice Ao27 t160.length co27, .agg #[.int .i64 0, .int .i64 6, .bool false], .agg #[.int .i64 a0, .int .i64 0], .int .i64 10] rfl ?_; (with_reducible refine (ellipsis_Cut.calls _ _ x6_1 _ _ t160 0 6 false a0 0 10 t164 t165 t166 t167 _ ?side1 ?side2 ?side3 ?side4 A17.out).mono ?_); (case side1 => repeat (first | exact (Kd.R_reads' HO_6.out).2.2 | (with_reducible refine Kd.C_alloc ?_ _) | (with_reducible refine Kd.C_drewN ?_ _) | (with_reducible refine Kd.C_drew ?_))); (case side2 => exact (Kd.R_reads' HO_6.out).2.1); (case side3 => repeat (first | exact (Kd.R_reads' HO163.out).2.2 | (with_reducible refine Kd.C_alloc ?_ _) | (with_reducible refine Kd.C_drewN ?_ _) | (with_reducible refine Kd.C_drew ?_))); (case side4 => exact (Kd.R_reads' HO163.out).2.1); rintro e w28 ⟨rfl, hb⟩; refine ⟨_, rfl, ?_⟩; replace HO_5 := Aside0.mk (Kd.R_below (rx HO_5) hb); replace HO_6 := Aside0.mk (Kd.R_below (rx HO_6) hb); replace HO163 := Aside0.mk (Kd.R_below (rx HO163) hb); replace HB := bh HB hb; (try clear hb); (try clear hb2); (try clear hk); (try clear hi)))
     go_ret3
     exact ⟨by first | rfl | (simp [errW_none, errW_some] <;> rfl) | (simp [*, errW_none, errW_some] <;> rfl), by repeat (first | (with_reducible first | exact HB.out | apply below_alloc | apply pw_below_drewN | apply below_drew1) | exact HB.out)⟩

/-! ### stickfullaw26_is: function 22 -/
def stickfullaw26_is.f (k : Nat) (a0 a1 a2 : Int) (a3 : Bool) : Option (Bool) := (stickfullaw26_cuts.f k a0).bind fun bt168 => (if bt168.1 = a1 then (if bt168.2.1 = a2 then (some (bt168.2.2 == a3)) else (some false)) else (some false))
theorem stickfullaw26_is.mono : ∀ a0 a1 a2 a3 k, LeO (stickfullaw26_is.f k a0 a1 a2 a3) (stickfullaw26_is.f (k + 1) a0 a1 a2 a3) := by
 intro a0 a1 a2 a3 k
 unfold stickfullaw26_is.f
 repeat' first
   | (with_reducible exact stickfullaw26_cuts.mono _ _)
   | (with_reducible exact LeO.refl _)
   | (with_reducible exact LeO.none _)
   | (with_reducible refine LeO.ite ?_ ?_)
   | (with_reducible refine LeO.bind ?_ (fun _ => ?_))
   | exact stickfullaw26_cuts.mono _ _
   | exact LeO.none _
   | refine LeO.ite ?_ ?_
   | refine LeO.bind ?_ (fun _ => ?_)
set_option maxHeartbeats 8000000 in
set_option maxRecDepth 100000 in
theorem stickfullaw26_is.calls (k : Nat) (a0 a1 a2 : Int) (a3 r : Bool) (w : World) (h : stickfullaw26_is.f k a0 a1 a2 a3 = some r) :
  Calls Try.prog 22 #[.int .i64 a0, .int .i64 a1, .int .i64 a2, .bool a3] w fun e w' => e = .returned (.bool r) ∧ Below w.heap.size w w' := by
 have HB := Aside0.mk (Below.refl w.heap.size w)
 have H : ((stickfullaw26_cuts.f k a0).bind fun bt168 => (if bt168.1 = a1 then (if bt168.2.1 = a2 then (some (bt168.2.2 == a3)) else (some false)) else (some false))) = some r := h
 clear h
 replace H := Option.bind_eq_some_iff.mp H
 obtain ⟨⟨t168, t169, t170⟩, A50, H⟩ := H
 replace H : (if t168 = a1 then (if t169 = a2 then (some (t170 == a3)) else (some false)) else (some false)) = some r := H
 have A5 := Aside0.mk A50
 clear A50
 by_cases c6 : t168 = a1
 ·rw [if_pos c6] at H
  have c6b0 : (t168 == a1) = true := beq_iff_eq.mpr c6
  have c6b1 : (t168 != a1) = false := bne_eq_false_iff_eq.mpr c6
  clear c6
  by_cases c7 : t169 = a2
  ·rw [if_pos c7] at H
   have c7b0 : (t169 == a2) = true := beq_iff_eq.mpr c7
   have c7b1 : (t169 != a2) = false := bne_eq_false_iff_eq.mpr c7
   clear c7
   obtain rfl := Option.some.inj H
   go_enter Try.func22, Try.ntmps22
   go_wp2_with (first | ((with_reducible refine gate_callee (f := 42) rfl ?_); refine goesB (some 14) rfl rfl Try.func42 #[.int .i64 a0] rfl ?_; (with_reducible refine (stickfullaw26_cuts.calls k a0 t168 t169 t170 _ A5.out).mono ?_); rintro e w8 ⟨rfl, hb⟩; refine ⟨_, rfl, ?_⟩; replace HB := bh HB hb; (try clear hb); (try clear hb2); (try clear hk); (try clear hi)))
   go_ret
   exact ⟨by first | rfl | (simp [errW_none, errW_some] <;> rfl) | (simp [*, errW_none, errW_some] <;> rfl), by repeat (first | (with_reducible first | exact HB.out | apply below_alloc | apply pw_below_drewN | apply below_drew1) | exact HB.out)⟩
  ·rw [if_neg c7] at H
   have c7b0 : (t169 == a2) = false := beq_eq_false_iff_ne.mpr c7
   have c7b1 : (t169 != a2) = true := bne_iff_ne.mpr c7
   obtain rfl := Option.some.inj H
   go_enter Try.func22, Try.ntmps22
   go_wp2_with (first | ((with_reducible refine gate_callee (f := 42) rfl ?_); refine goesB (some 14) rfl rfl Try.func42 #[.int .i64 a0] rfl ?_; (with_reducible refine (stickfullaw26_cuts.calls k a0 t168 t169 t170 _ A5.out).mono ?_); rintro e w9 ⟨rfl, hb⟩; refine ⟨_, rfl, ?_⟩; replace HB := bh HB hb; (try clear hb); (try clear hb2); (try clear hk); (try clear hi)))
   go_ret
   exact ⟨by first | rfl | (simp [errW_none, errW_some] <;> rfl) | (simp [*, errW_none, errW_some] <;> rfl), by repeat (first | (with_reducible first | exact HB.out | apply below_alloc | apply pw_below_drewN | apply below_drew1) | exact HB.out)⟩
 ·rw [if_neg c6] at H
  have c6b0 : (t168 == a1) = false := beq_eq_false_iff_ne.mpr c6
  have c6b1 : (t168 != a1) = true := bne_iff_ne.mpr c6
  obtain rfl := Option.some.inj H
  go_enter Try.func22, Try.ntmps22
  go_wp2_with (first | ((with_reducible refine gate_callee (f := 42) rfl ?_); refine goesB (some 14) rfl rfl Try.func42 #[.int .i64 a0] rfl ?_; (with_reducible refine (stickfullaw26_cuts.calls k a0 t168 t169 t170 _ A5.out).mono ?_); rintro e w10 ⟨rfl, hb⟩; refine ⟨_, rfl, ?_⟩; replace HB := bh HB hb; (try clear hb); (try clear hb2); (try clear hk); (try clear hi)))
  go_ret
  exact ⟨by first | rfl | (simp [errW_none, errW_some] <;> rfl) | (simp [*, errW_none, errW_some] <;> rfl), by repeat (first | (with_reducible first | exact HB.out | apply below_alloc | apply pw_below_drewN | apply below_drew1) | exact HB.out)⟩

/-! ### stickfullaw26_head: function 9 -/
def stickfullaw26_head.f (k : Nat)  : Option (Bool) := (ellipsis_Whole.f k ([] : List (S78)) (([(⟨0, 0, 0, 0, false, false⟩ : S53)] : List (S53)))).bind fun bt174 => ((ellipsis_Places.f k ([] : List (S53)) ([] : List Bool) 0 1 false).bind fun bt178 => ((stickfullaw26_is.f k 60 6 60 false).bind fun t182 => (if t182 = true then ((stickfullaw26_is.f k 59 4 40 true).bind fun t183 => (if t183 = true then ((stickfullaw26_is.f k 50 4 40 true).bind fun t184 => (if t184 = true then ((stickfullaw26_is.f k 45 2 20 true).bind fun t185 => (if t185 = true then ((stickfullaw26_is.f k 30 2 20 true).bind fun t186 => (if t186 = true then ((stickfullaw26_is.f k 9 0 0 true).bind fun t187 => (if t187 = true then (if bt174.2 = 2 then (some (bt178.2 == 2)) else (some false)) else (some false))) else (some false))) else (some false))) else (some false))) else (some false))) else (some false))))
theorem stickfullaw26_head.mono : ∀ k, LeO (stickfullaw26_head.f k ) (stickfullaw26_head.f (k + 1) ) := by
 intro  k
 unfold stickfullaw26_head.f
 repeat' first
   | (with_reducible exact ellipsis_Places.mono _ _ _ _ _ _)
   | (with_reducible exact ellipsis_Whole.mono _ _ _)
   | (with_reducible exact stickfullaw26_is.mono _ _ _ _ _)
   | (with_reducible exact LeO.refl _)
   | (with_reducible exact LeO.none _)
   | (with_reducible refine LeO.ite ?_ ?_)
   | (with_reducible refine LeO.bind ?_ (fun _ => ?_))
   | exact ellipsis_Places.mono _ _ _ _ _ _
   | exact ellipsis_Whole.mono _ _ _
   | exact stickfullaw26_is.mono _ _ _ _ _
   | exact LeO.none _
   | refine LeO.ite ?_ ?_
   | refine LeO.bind ?_ (fun _ => ?_)
set_option maxHeartbeats 8000000 in
set_option maxRecDepth 100000 in
theorem stickfullaw26_head.calls_t (k : Nat)  (r : Bool) (w : World) (h : stickfullaw26_head.f k  = some r) (hr_ : r = true) :
  Calls Try.prog 9 #[] w fun e w' => e = .returned (.bool r) ∧ Below w.heap.size w w' := by
 have hu53 := Try.underlying53
 have hu25 := Try.underlying25
 have HR_ := Aside0.mk hr_
 clear hr_
 have HB := Aside0.mk (Below.refl w.heap.size w)
 have H : ((ellipsis_Whole.f k ([] : List (S78)) (([(⟨0, 0, 0, 0, false, false⟩ : S53)] : List (S53)))).bind fun bt174 => ((ellipsis_Places.f k ([] : List (S53)) ([] : List Bool) 0 1 false).bind fun bt178 => ((stickfullaw26_is.f k 60 6 60 false).bind fun t182 => (if t182 = true then ((stickfullaw26_is.f k 59 4 40 true).bind fun t183 => (if t183 = true then ((stickfullaw26_is.f k 50 4 40 true).bind fun t184 => (if t184 = true then ((stickfullaw26_is.f k 45 2 20 true).bind fun t185 => (if t185 = true then ((stickfullaw26_is.f k 30 2 20 true).bind fun t186 => (if t186 = true then ((stickfullaw26_is.f k 9 0 0 true).bind fun t187 => (if t187 = true then (if bt174.2 = 2 then (some (bt178.2 == 2)) else (some false)) else (some false))) else (some false))) else (some false))) else (some false))) else (some false))) else (some false))))) = some r := h
 clear h
 obtain ⟨y171, hy171⟩ : ∃ y_ : List (S53), y_ = (([(⟨0, 0, 0, 0, false, false⟩ : S53)] : List (S53))) := ⟨_, rfl⟩
 replace H : ((ellipsis_Whole.f k ([] : List (S78)) y171).bind fun bt174 => ((ellipsis_Places.f k ([] : List (S53)) ([] : List Bool) 0 1 false).bind fun bt178 => ((stickfullaw26_is.f k 60 6 60 false).bind fun t182 => (if t182 = true then ((stickfullaw26_is.f k 59 4 40 true).bind fun t183 => (if t183 = true then ((stickfullaw26_is.f k 50 4 40 true).bind fun t184 => (if t184 = true then ((stickfullaw26_is.f k 45 2 20 true).bind fun t185 => (if t185 = true then ((stickfullaw26_is.f k 30 2 20 true).bind fun t186 => (if t186 = true then ((stickfullaw26_is.f k 9 0 0 true).bind fun t187 => (if t187 = true then (if bt174.2 = 2 then (some (bt178.2 == 2)) else (some false)) else (some false))) else (some false))) else (some false))) else (some false))) else (some false))) else (some false))))) = some r := by first | (rw [hy171]; with_reducible exact H) | (have H2_ := (Option.bind_some _ _).symm.trans H; rw [hy171]; with_reducible exact H2_) | (have H2_ := (Option.bind_some _ _).symm.trans H; with_reducible exact H2_) | with_reducible exact H | (rw [hy171]; exact H) | exact H
 have Ny171 := Aside0.mk hy171
 clear hy171
 replace H := Option.bind_eq_some_iff.mp H
 obtain ⟨⟨t174, t175⟩, A10, H⟩ := H
 replace H : ((ellipsis_Places.f k ([] : List (S53)) ([] : List Bool) 0 1 false).bind fun bt178 => ((stickfullaw26_is.f k 60 6 60 false).bind fun t182 => (if t182 = true then ((stickfullaw26_is.f k 59 4 40 true).bind fun t183 => (if t183 = true then ((stickfullaw26_is.f k 50 4 40 true).bind fun t184 => (if t184 = true then ((stickfullaw26_is.f k 45 2 20 true).bind fun t185 => (if t185 = true then ((stickfullaw26_is.f k 30 2 20 true).bind fun t186 => (if t186 = true then ((stickfullaw26_is.f k 9 0 0 true).bind fun t187 => (if t187 = true then (if t175 = 2 then (some (bt178.2 == 2)) else (some false)) else (some false))) else (some false))) else (some false))) else (some false))) else (some false))) else (some false)))) = some r := H
 have A1 := Aside0.mk A10
 clear A10
 replace H := Option.bind_eq_some_iff.mp H
 obtain ⟨⟨t178, t181⟩, A20, H⟩ := H
 replace H : ((stickfullaw26_is.f k 60 6 60 false).bind fun t182 => (if t182 = true then ((stickfullaw26_is.f k 59 4 40 true).bind fun t183 => (if t183 = true then ((stickfullaw26_is.f k 50 4 40 true).bind fun t184 => (if t184 = true then ((stickfullaw26_is.f k 45 2 20 true).bind fun t185 => (if t185 = true then ((stickfullaw26_is.f k 30 2 20 true).bind fun t186 => (if t186 = true then ((stickfullaw26_is.f k 9 0 0 true).bind fun t187 => (if t187 = true then (if t175 = 2 then (some (t181 == 2)) else (some false)) else (some false))) else (some false))) else (some false))) else (some false))) else (some false))) else (some false))) = some r := H
 have A2 := Aside0.mk A20
 clear A20
 replace H := Option.bind_eq_some_iff.mp H
 obtain ⟨t182, A30, H⟩ := H
 replace H : (if t182 = true then ((stickfullaw26_is.f k 59 4 40 true).bind fun t183 => (if t183 = true then ((stickfullaw26_is.f k 50 4 40 true).bind fun t184 => (if t184 = true then ((stickfullaw26_is.f k 45 2 20 true).bind fun t185 => (if t185 = true then ((stickfullaw26_is.f k 30 2 20 true).bind fun t186 => (if t186 = true then ((stickfullaw26_is.f k 9 0 0 true).bind fun t187 => (if t187 = true then (if t175 = 2 then (some (t181 == 2)) else (some false)) else (some false))) else (some false))) else (some false))) else (some false))) else (some false))) else (some false)) = some r := H
 have A3 := Aside0.mk A30
 clear A30
 by_cases c4 : t182 = true
 ·subst c4
  have H1 : ((stickfullaw26_is.f k 59 4 40 true).bind fun t183 => (if t183 = true then ((stickfullaw26_is.f k 50 4 40 true).bind fun t184 => (if t184 = true then ((stickfullaw26_is.f k 45 2 20 true).bind fun t185 => (if t185 = true then ((stickfullaw26_is.f k 30 2 20 true).bind fun t186 => (if t186 = true then ((stickfullaw26_is.f k 9 0 0 true).bind fun t187 => (if t187 = true then (if t175 = 2 then (some (t181 == 2)) else (some false)) else (some false))) else (some false))) else (some false))) else (some false))) else (some false))) = some r := by rw [if_pos rfl] at H; exact H
  clear H
  have H := H1
  clear H1
  replace H := Option.bind_eq_some_iff.mp H
  obtain ⟨t183, A50, H⟩ := H
  replace H : (if t183 = true then ((stickfullaw26_is.f k 50 4 40 true).bind fun t184 => (if t184 = true then ((stickfullaw26_is.f k 45 2 20 true).bind fun t185 => (if t185 = true then ((stickfullaw26_is.f k 30 2 20 true).bind fun t186 => (if t186 = true then ((stickfullaw26_is.f k 9 0 0 true).bind fun t187 => (if t187 = true then (if t175 = 2 then (some (t181 == 2)) else (some false)) else (some false))) else (some false))) else (some false))) else (some false))) else (some false)) = some r := H
  have A5 := Aside0.mk A50
  clear A50
  by_cases c6 : t183 = true
  ·subst c6
   have H1 : ((stickfullaw26_is.f k 50 4 40 true).bind fun t184 => (if t184 = true then ((stickfullaw26_is.f k 45 2 20 true).bind fun t185 => (if t185 = true then ((stickfullaw26_is.f k 30 2 20 true).bind fun t186 => (if t186 = true then ((stickfullaw26_is.f k 9 0 0 true).bind fun t187 => (if t187 = true then (if t175 = 2 then (some (t181 == 2)) else (some false)) else (some false))) else (some false))) else (some false))) else (some false))) = some r := by rw [if_pos rfl] at H; exact H
   clear H
   have H := H1
   clear H1
   replace H := Option.bind_eq_some_iff.mp H
   obtain ⟨t184, A70, H⟩ := H
   replace H : (if t184 = true then ((stickfullaw26_is.f k 45 2 20 true).bind fun t185 => (if t185 = true then ((stickfullaw26_is.f k 30 2 20 true).bind fun t186 => (if t186 = true then ((stickfullaw26_is.f k 9 0 0 true).bind fun t187 => (if t187 = true then (if t175 = 2 then (some (t181 == 2)) else (some false)) else (some false))) else (some false))) else (some false))) else (some false)) = some r := H
   have A7 := Aside0.mk A70
   clear A70
   by_cases c8 : t184 = true
   ·subst c8
    have H1 : ((stickfullaw26_is.f k 45 2 20 true).bind fun t185 => (if t185 = true then ((stickfullaw26_is.f k 30 2 20 true).bind fun t186 => (if t186 = true then ((stickfullaw26_is.f k 9 0 0 true).bind fun t187 => (if t187 = true then (if t175 = 2 then (some (t181 == 2)) else (some false)) else (some false))) else (some false))) else (some false))) = some r := by rw [if_pos rfl] at H; exact H
    clear H
    have H := H1
    clear H1
    replace H := Option.bind_eq_some_iff.mp H
    obtain ⟨t185, A90, H⟩ := H
    replace H : (if t185 = true then ((stickfullaw26_is.f k 30 2 20 true).bind fun t186 => (if t186 = true then ((stickfullaw26_is.f k 9 0 0 true).bind fun t187 => (if t187 = true then (if t175 = 2 then (some (t181 == 2)) else (some false)) else (some false))) else (some false))) else (some false)) = some r := H
    have A9 := Aside0.mk A90
    clear A90
    by_cases c10 : t185 = true
    ·subst c10
     have H1 : ((stickfullaw26_is.f k 30 2 20 true).bind fun t186 => (if t186 = true then ((stickfullaw26_is.f k 9 0 0 true).bind fun t187 => (if t187 = true then (if t175 = 2 then (some (t181 == 2)) else (some false)) else (some false))) else (some false))) = some r := by rw [if_pos rfl] at H; exact H
     clear H
     have H := H1
     clear H1
     replace H := Option.bind_eq_some_iff.mp H
     obtain ⟨t186, A110, H⟩ := H
     replace H : (if t186 = true then ((stickfullaw26_is.f k 9 0 0 true).bind fun t187 => (if t187 = true then (if t175 = 2 then (some (t181 == 2)) else (some false)) else (some false))) else (some false)) = some r := H
     have A11 := Aside0.mk A110
     clear A110
     by_cases c12 : t186 = true
     ·subst c12
      have H1 : ((stickfullaw26_is.f k 9 0 0 true).bind fun t187 => (if t187 = true then (if t175 = 2 then (some (t181 == 2)) else (some false)) else (some false))) = some r := by rw [if_pos rfl] at H; exact H
      clear H
      have H := H1
      clear H1
      replace H := Option.bind_eq_some_iff.mp H
      obtain ⟨t187, A130, H⟩ := H
      replace H : (if t187 = true then (if t175 = 2 then (some (t181 == 2)) else (some false)) else (some false)) = some r := H
      have A13 := Aside0.mk A130
      clear A130
      by_cases c14 : t187 = true
      ·subst c14
       have H1 : (if t175 = 2 then (some (t181 == 2)) else (some false)) = some r := by rw [if_pos rfl] at H; exact H
       clear H
       have H := H1
       clear H1
       by_cases c15 : t175 = 2
       ·rw [if_pos c15] at H
        have c15b0 : (t175 == 2) = true := beq_iff_eq.mpr c15
        have c15b1 : (t175 != 2) = false := bne_eq_false_iff_eq.mpr c15
        clear c15
        obtain rfl := Option.some.inj H
        go_enter Try.func9, Try.ntmps9
        go_wp2_with (first | ((with_reducible refine gate_dst (N := 7) rfl ?_); refine Kd.R_lit k53 _ 53 ?hg (N := 7) ?hd (xs := ([(⟨0, 0, 0, 0, false, false⟩ : S53)] : List (S53))) (inner := [.int .u8 0, .int .i64 0, .int .i64 0, .int .i64 0, .bool false, .bool false]) (ok := fun _ => True) (okp := fun _ => True) ?hr ?hp (fun _ hk => hk) trivial (Below.refl _ _) (Nat.le_refl _) (by simp) ?_; (case hd => rfl); (case hg => rfl); (case hr => first | (go_simp; done) | (go_simp; rfl)); (case hp => exact (Reps.c6 (show Kd.M k53 _ _ _ (⟨0, 0, 0, 0, false, false⟩ : S53) [.int .u8 0, .int .i64 0, .int .i64 0, .int .i64 0, .bool false, .bool false] from (k53_mkM _ _ _ (⟨0, 0, 0, 0, false, false⟩ : S53) )) (Reps.none _ _))); intro v172 w16 ho17 hb hg_ hnew_; clear hg_ hnew_; (first | rw [← Ny171.out] at ho17 | (simp only [Int.reduceToNat] at ho17; rw [← Ny171.out] at ho17)); have HO173 := Aside0.mk (Kd.R_lower ho17 (below_size (bw HB))); replace HB := bh HB hb; clear hb ho17; obtain ⟨Ao18, co18, eo18⟩ := Kd.R_slice HO173.out; subst eo18) | ((with_reducible refine gate_callee (f := 15) rfl ?_); refine goesB (some 8) rfl rfl Try.func15 #[.slice none 0 0, .slice Ao18 y171.length co18] rfl ?_; (refine (ellipsis_Whole.calls k _ _ ([] : List (S78)) _ _ y171 t174 t175 _ ?side1 ?side2 ?side3 ?side4 A1.out).mono ?_); (case side1 => exact Kd.C_nil _ _); (case side2 => exact Nat.le_refl _); (case side3 => repeat (first | exact (Kd.R_reads' HO173.out).2.2 | (with_reducible refine Kd.C_alloc ?_ _) | (with_reducible refine Kd.C_drewN ?_ _) | (with_reducible refine Kd.C_drew ?_))); (case side4 => exact (Kd.R_reads' HO173.out).2.1); rintro e w19 ⟨v176, rfl, ho0, hb⟩; refine ⟨_, rfl, ?_⟩; replace HO173 := Aside0.mk (Kd.R_below (rx HO173) hb); have HO177 := Aside0.mk (Kd.R_lower ho0 (below_size (bw HB))); replace HB := bh HB hb; (try clear hb); (try clear hb2); (try clear hk); (try clear hi); (try clear ho0); (try clear A1)) | ((with_reducible refine gate_callee (f := 12) rfl ?_); refine goesB (some 13) rfl rfl Try.func12 #[.slice none 0 0, .slice none 0 0, .agg #[.int .i64 0, .int .i64 1, .bool false]] rfl ?_; (refine (ellipsis_Places.calls k _ _ ([] : List (S53)) _ _ ([] : List Bool) 0 1 false t178 t181 _ ?side1 ?side2 ?side3 ?side4 A2.out).mono ?_); (case side1 => exact Kd.C_nil _ _); (case side2 => exact Nat.le_refl _); (case side3 => exact Kd.C_nil _ _); (case side4 => exact Nat.le_refl _); rintro e w20 ⟨v179, rfl, ho0, hb⟩; refine ⟨_, rfl, ?_⟩; replace HO173 := Aside0.mk (Kd.R_below (rx HO173) hb); replace HO177 := Aside0.mk (Kd.R_below (rx HO177) hb); have HO180 := Aside0.mk (Kd.R_lower ho0 (below_size (bw HB))); replace HB := bh HB hb; (try clear hb); (try clear hb2); (try clear hk); (try clear hi); (try clear ho0); (try clear A2)) | ((with_reducible refine gate_callee (f := 22) rfl ?_); refine goesB (some 16) rfl rfl Try.func22 #[.int .i64 60, .int .i64 6, .int .i64 60, .bool false] rfl ?_; (with_reducible refine (stickfullaw26_is.calls k 60 6 60 false true _ A3.out).mono ?_); rintro e w21 ⟨rfl, hb⟩; refine ⟨_, rfl, ?_⟩; replace HO173 := Aside0.mk (Kd.R_below (rx HO173) hb); replace HO177 := Aside0.mk (Kd.R_below (rx HO177) hb); replace HO180 := Aside0.mk (Kd.R_below (rx HO180) hb); replace HB := bh HB hb; (try clear hb); (try clear hb2); (try clear hk); (try clear hi)) | (go_at_call 22; (with_reducible refine (stickfullaw26_is.calls k 59 4 40 true true _ A5.out).mono ?_); rintro e w22 ⟨rfl, hb⟩; replace HO173 := Aside0.mk (Kd.R_below (rx HO173) hb); replace HO177 := Aside0.mk (Kd.R_below (rx HO177) hb); replace HO180 := Aside0.mk (Kd.R_below (rx HO180) hb); replace HB := bh HB hb; (try clear hb); (try clear hb2); (try clear hk); (try clear hi)) | (go_at_call 22; (with_reducible refine (stickfullaw26_is.calls k 50 4 40 true true _ A7.out).mono ?_); rintro e w23 ⟨rfl, hb⟩; replace HO173 := Aside0.mk (Kd.R_below (rx HO173) hb); replace HO177 := Aside0.mk (Kd.R_below (rx HO177) hb); replace HO180 := Aside0.mk (Kd.R_below (rx HO180) hb); replace HB := bh HB hb; (try clear hb); (try clear hb2); (try clear hk); (try clear hi)) | (go_at_call 22; (with_reducible refine (stickfullaw26_is.calls k 45 2 20 true true _ A9.out).mono ?_); rintro e w24 ⟨rfl, hb⟩; replace HO173 := Aside0.mk (Kd.R_below (rx HO173) hb); replace HO177 := Aside0.mk (Kd.R_below (rx HO177) hb); replace HO180 := Aside0.mk (Kd.R_below (rx HO180) hb); replace HB := bh HB hb; (try clear hb); (try clear hb2); (try clear hk); (try clear hi)) | (go_at_call 22; (with_reducible refine (stickfullaw26_is.calls k 30 2 20 true true _ A11.out).mono ?_); rintro e w25 ⟨rfl, hb⟩; replace HO173 := Aside0.mk (Kd.R_below (rx HO173) hb); replace HO177 := Aside0.mk (Kd.R_below (rx HO177) hb); replace HO180 := Aside0.mk (Kd.R_below (rx HO180) hb); replace HB := bh HB hb; (try clear hb); (try clear hb2); (try clear hk); (try clear hi)) | (go_at_call 22; (with_reducible refine (stickfullaw26_is.calls k 9 0 0 true true _ A13.out).mono ?_); rintro e w26 ⟨rfl, hb⟩; replace HO173 := Aside0.mk (Kd.R_below (rx HO173) hb); replace HO177 := Aside0.mk (Kd.R_below (rx HO177) hb); replace HO180 := Aside0.mk (Kd.R_below (rx HO180) hb); replace HB := bh HB hb; (try clear hb); (try clear hb2); (try clear hk); (try clear hi)))
        go_ret
        exact ⟨by first | rfl | (simp [errW_none, errW_some] <;> rfl) | (simp [*, errW_none, errW_some] <;> rfl), by repeat (first | (with_reducible first | exact HB.out | apply below_alloc | apply pw_below_drewN | apply below_drew1) | exact HB.out)⟩
       ·rw [if_neg c15] at H
        have c15b0 : (t175 == 2) = false := beq_eq_false_iff_ne.mpr c15
        have c15b1 : (t175 != 2) = true := bne_iff_ne.mpr c15
        exact absurd ((Option.some.inj H).trans HR_.out) (by decide)
      ·replace c14 := Bool.eq_false_iff.mpr c14
       subst c14
       have H1 : (some false) = some r := by rw [if_neg (show ¬ (false = true) by decide)] at H; exact H
       clear H
       have H := H1
       clear H1
       exact absurd ((Option.some.inj H).trans HR_.out) (by decide)
     ·replace c12 := Bool.eq_false_iff.mpr c12
      subst c12
      have H1 : (some false) = some r := by rw [if_neg (show ¬ (false = true) by decide)] at H; exact H
      clear H
      have H := H1
      clear H1
      exact absurd ((Option.some.inj H).trans HR_.out) (by decide)
    ·replace c10 := Bool.eq_false_iff.mpr c10
     subst c10
     have H1 : (some false) = some r := by rw [if_neg (show ¬ (false = true) by decide)] at H; exact H
     clear H
     have H := H1
     clear H1
     exact absurd ((Option.some.inj H).trans HR_.out) (by decide)
   ·replace c8 := Bool.eq_false_iff.mpr c8
    subst c8
    have H1 : (some false) = some r := by rw [if_neg (show ¬ (false = true) by decide)] at H; exact H
    clear H
    have H := H1
    clear H1
    exact absurd ((Option.some.inj H).trans HR_.out) (by decide)
  ·replace c6 := Bool.eq_false_iff.mpr c6
   subst c6
   have H1 : (some false) = some r := by rw [if_neg (show ¬ (false = true) by decide)] at H; exact H
   clear H
   have H := H1
   clear H1
   exact absurd ((Option.some.inj H).trans HR_.out) (by decide)
 ·replace c4 := Bool.eq_false_iff.mpr c4
  subst c4
  have H1 : (some false) = some r := by rw [if_neg (show ¬ (false = true) by decide)] at H; exact H
  clear H
  have H := H1
  clear H1
  exact absurd ((Option.some.inj H).trans HR_.out) (by decide)

theorem stickfullaw26_head.true_ (k : Nat) (r : Bool) (h : stickfullaw26_head.f k = some r) : r = true := by
 have h1 : stickfullaw26_head.f 100 = some true := by kernel_rfl
 have a := at_rounds stickfullaw26_head.mono (Nat.le_max_left k 100) h
 have b := at_rounds stickfullaw26_head.mono (Nat.le_max_right k 100) h1
 rw [a] at b
 exact Option.some.inj b
theorem stickfullaw26_head.calls (k : Nat)  (r : Bool) (w : World) (h : stickfullaw26_head.f k  = some r) :
  Calls Try.prog 9 #[] w fun e w' => e = .returned (.bool r) ∧ Below w.heap.size w w' := stickfullaw26_head.calls_t k r w h (stickfullaw26_head.true_ k r h)

/-! ### stickfulref26_Places: function 13 -/
mutual
def stickfulref26_Places.j0 : Nat → List Bool → Bool → Int → Int → Bool → Option (List Int × Int)
 | 0, _, _, _, _, _ => none
 | k + 1, x1, x33, x189000, x189001, x189002 => if x33 = true then (some (([] : List Int), 2)) else (stickfulref26_Places.l0 k x1 ([] : List Int) x189000 x189000 x189001 x189002)
def stickfulref26_Places.l0 : Nat → List Bool → List Int → Int → Int → Int → Bool → Option (List Int × Int)
 | 0, _, _, _, _, _, _ => none
 | k + 1, x1, x8, x9, x189000, x189001, x189002 => if x9 ≤ x189001 then (if x9 = x189001 then (if x8.length < 17592186044416 then (stickfulref26_Places.l0 k x1 (x8 ++ [x9]) (wrap64 (x9 + 1)) x189000 x189001 x189002) else (none)) else (if 0 ≤ x9 then (if x9 < (x1.length : Int) then (if rdOf false x1 x9 = true then (if x8.length < 17592186044416 then (stickfulref26_Places.l0 k x1 (x8 ++ [x9]) (wrap64 (x9 + 1)) x189000 x189001 x189002) else (none)) else (stickfulref26_Places.l0 k x1 x8 (wrap64 (x9 + 1)) x189000 x189001 x189002)) else (none)) else (none))) else (some (x8, 0))
end
def stickfulref26_Places.f (k : Nat) (l0 : List (S53)) (l1 : List Bool) (a2_0 a2_1 : Int) (a2_2 : Bool) : Option (List Int × Int) := if (l1.length : Int) = (l0.length : Int) then (if a2_0 < 0 then (stickfulref26_Places.j0 k l1 true a2_0 a2_1 a2_2) else (if a2_1 < a2_0 then (stickfulref26_Places.j0 k l1 true a2_0 a2_1 a2_2) else (stickfulref26_Places.j0 k l1 (decide (a2_1 > (l0.length : Int))) a2_0 a2_1 a2_2))) else (stickfulref26_Places.j0 k l1 true a2_0 a2_1 a2_2)
theorem stickfulref26_Places.mono_l : ∀ k, (∀ y0 y1 y2 y3 y4, LeO (stickfulref26_Places.j0 k y0 y1 y2 y3 y4) (stickfulref26_Places.j0 (k + 1) y0 y1 y2 y3 y4)) ∧ (∀ y0 y1 y2 y3 y4 y5, LeO (stickfulref26_Places.l0 k y0 y1 y2 y3 y4 y5) (stickfulref26_Places.l0 (k + 1) y0 y1 y2 y3 y4 y5))
 | 0 => ⟨fun _ _ _ _ _ r h => by simp [stickfulref26_Places.j0] at h, fun _ _ _ _ _ _ r h => by simp [stickfulref26_Places.l0] at h⟩
 | k + 1 => by
  obtain ⟨ih0, ih1⟩ := stickfulref26_Places.mono_l k
  refine ⟨?_, ?_⟩
  ·intro y0 y1 y2 y3 y4
   unfold stickfulref26_Places.j0
   repeat' first
   | (with_reducible exact ih0 _ _ _ _ _)
   | (with_reducible exact ih1 _ _ _ _ _ _)
   | (with_reducible exact LeO.refl _)
   | (with_reducible exact LeO.none _)
   | (with_reducible refine LeO.ite ?_ ?_)
   | (with_reducible refine LeO.bind ?_ (fun _ => ?_))
   | exact ih0 _ _ _ _ _
   | exact ih1 _ _ _ _ _ _
   | exact LeO.none _
   | refine LeO.ite ?_ ?_
   | refine LeO.bind ?_ (fun _ => ?_)
  ·intro y0 y1 y2 y3 y4 y5
   unfold stickfulref26_Places.l0
   repeat' first
   | (with_reducible exact ih0 _ _ _ _ _)
   | (with_reducible exact ih1 _ _ _ _ _ _)
   | (with_reducible exact LeO.refl _)
   | (with_reducible exact LeO.none _)
   | (with_reducible refine LeO.ite ?_ ?_)
   | (with_reducible refine LeO.bind ?_ (fun _ => ?_))
   | exact ih0 _ _ _ _ _
   | exact ih1 _ _ _ _ _ _
   | exact LeO.none _
   | refine LeO.ite ?_ ?_
   | refine LeO.bind ?_ (fun _ => ?_)
theorem stickfulref26_Places.mono : ∀ a0 a1 a2 a3 a4 k, LeO (stickfulref26_Places.f k a0 a1 a2 a3 a4) (stickfulref26_Places.f (k + 1) a0 a1 a2 a3 a4) := by
 intro a0 a1 a2 a3 a4 k
 obtain ⟨ih0, ih1⟩ := stickfulref26_Places.mono_l k
 unfold stickfulref26_Places.f
 repeat' first
   | (with_reducible exact ih0 _ _ _ _ _)
   | (with_reducible exact ih1 _ _ _ _ _ _)
   | (with_reducible exact LeO.refl _)
   | (with_reducible exact LeO.none _)
   | (with_reducible refine LeO.ite ?_ ?_)
   | (with_reducible refine LeO.bind ?_ (fun _ => ?_))
   | exact ih0 _ _ _ _ _
   | exact ih1 _ _ _ _ _ _
   | exact LeO.none _
   | refine LeO.ite ?_ ?_
   | refine LeO.bind ?_ (fun _ => ?_)
set_option maxHeartbeats 8000000 in
set_option maxRecDepth 100000 in
theorem stickfulref26_Places.calls (k : Nat) (A0 : Option Addr) (c0 : Nat) (l0 : List (S53)) (A1 : Option Addr) (c1 : Nat) (l1 : List Bool) (a2_0 a2_1 : Int) (a2_2 : Bool) (r1 : List Int) (r2 : Int) (w : World) (hr0 : Kd.C k53 w A0 l0.length l0) (hc0 : l0.length ≤ c0) (hr1 : Kd.C Kd.bool w A1 l1.length l1) (hc1 : l1.length ≤ c1) (h : stickfulref26_Places.f k l0 l1 a2_0 a2_1 a2_2 = some (r1, r2)) :
  Calls Try.prog 13 #[.slice A0 l0.length c0, .slice A1 l1.length c1, .agg #[.int .i64 a2_0, .int .i64 a2_1, .bool a2_2]] w fun e w' => ∃ v0_ : Value, e = .returned (.tuple #[v0_, .int .i64 r2]) ∧ Kd.R (Kd.int .i64) 3 w' w.heap.size (fun _ => True) v0_ r1 ∧ Below w.heap.size w w' := by
 have hu25 := Try.underlying25
 have HR0 := Aside0.mk hr0
 have HC0 := Aside0.mk hc0
 clear hr0 hc0
 have HR1 := Aside0.mk hr1
 have HC1 := Aside0.mk hc1
 clear hr1 hc1
 have HB := Aside0.mk (Below.refl w.heap.size w)
 have H : (if (l1.length : Int) = (l0.length : Int) then (if a2_0 < 0 then (stickfulref26_Places.j0 k l1 true a2_0 a2_1 a2_2) else (if a2_1 < a2_0 then (stickfulref26_Places.j0 k l1 true a2_0 a2_1 a2_2) else (stickfulref26_Places.j0 k l1 (decide (a2_1 > (l0.length : Int))) a2_0 a2_1 a2_2))) else (stickfulref26_Places.j0 k l1 true a2_0 a2_1 a2_2)) = some (r1, r2) := h
 clear h
 have HC4 := Aside0.mk H
 clear H
 go_enter Try.func13, Try.ntmps13
 go_upto_region 1 with (first | ((with_reducible refine gate_dst (N := 5) rfl ?_); (try (refine gate_guard (by rfl) ?_; dsimp only)); refine box_event ?hg (N := 5) ?hd (cs := #[.int .i64 a2_0, .int .i64 a2_1, .bool a2_2]) (t := 25) ?hr ?_; (case hd => rfl); (case hg => rfl); (case hr => first | (go_simp; done) | (go_simp; rfl)); intro gb188 hg w5 hbox hb; have BK188 := Aside0.mk (hbox); have GW188 := bge HB hg; have GE188 := bge HB hg; replace HB := bh HB hb; clear hb hbox hg))
 (try simp only [Act.put, List.setIfInBounds_toArray, List.set_cons_zero, List.set_cons_succ])
 go_cut [33] (fun v33 wc => ∃ (kq : Nat) (x33_3 : Bool), v33 = .bool x33_3 ∧ Aside0 (stickfulref26_Places.j0 kq l1 x33_3 a2_0 a2_1 a2_2 = some (r1, r2)) ∧ Aside0 (kq ≤ k) ∧ Aside0 (wc.heap[gb188]? = some (.cells #[.int .i64 a2_0, .int .i64 a2_1, .bool a2_2] 25 (0, 0))) ∧ Aside0 (Below w.heap.size w wc))
 case first =>
  have H := HC4.out
  clear HC4
  by_cases c6 : (l1.length : Int) = (l0.length : Int)
  ·rw [if_pos c6] at H
   have c6b0 : ((l1.length : Int) == (l0.length : Int)) = true := beq_iff_eq.mpr c6
   have c6b1 : ((l1.length : Int) != (l0.length : Int)) = false := bne_eq_false_iff_eq.mpr c6
   have c6b2 : (l1.length == l0.length) = true := by first | simpa using c6 | (simp at c6 ⊢; omega)
   clear c6
   (first | rw [c6b0] | (simp only [i64_w, i32_w]; rw [c6b0]) | skip)
   by_cases c7 : a2_0 < 0
   ·rw [if_pos c7] at H
    have c7b0 : decide (a2_0 < 0) = true := decide_eq_true c7
    clear c7
    have H' := Aside0.mk H
    clear H
    obtain ⟨hcz8_0, hcz8_1, hcz8_2⟩ := cz3 BK188
    obtain ⟨hfz8_0, hfz8_1, hfz8_2⟩ := fz3 BK188
    go_wp2
    go_meet
    case rel => exact ⟨_, (true), (by first | rfl | (simp; done) | (simp [*]; done)), H', ⟨by first | omega | exact Nat.le_refl _⟩, ⟨by (with_reducible repeat (first | refine blk_drewN ?_ _ | refine blk_drew ?_ | refine blk_alloc ?_ _)); exact BK188.out⟩, ⟨by repeat (first | (with_reducible first | exact HB.out | apply below_alloc | apply pw_below_drewN | apply below_drew1 | refine below_set ?_ GE188.out) | exact HB.out)⟩⟩
   ·rw [if_neg c7] at H
    have c7b0 : decide (a2_0 < 0) = false := decide_eq_false c7
    clear c7
    by_cases c9 : a2_1 < a2_0
    ·rw [if_pos c9] at H
     have c9b0 : decide (a2_1 < a2_0) = true := decide_eq_true c9
     clear c9
     have H' := Aside0.mk H
     clear H
     obtain ⟨hcz10_0, hcz10_1, hcz10_2⟩ := cz3 BK188
     obtain ⟨hfz10_0, hfz10_1, hfz10_2⟩ := fz3 BK188
     go_wp2
     go_meet
     case rel => exact ⟨_, (true), (by first | rfl | (simp; done) | (simp [*]; done)), H', ⟨by first | omega | exact Nat.le_refl _⟩, ⟨by (with_reducible repeat (first | refine blk_drewN ?_ _ | refine blk_drew ?_ | refine blk_alloc ?_ _)); exact BK188.out⟩, ⟨by repeat (first | (with_reducible first | exact HB.out | apply below_alloc | apply pw_below_drewN | apply below_drew1 | refine below_set ?_ GE188.out) | exact HB.out)⟩⟩
    ·rw [if_neg c9] at H
     have c9b0 : decide (a2_1 < a2_0) = false := decide_eq_false c9
     clear c9
     have H' := Aside0.mk H
     clear H
     obtain ⟨hcz11_0, hcz11_1, hcz11_2⟩ := cz3 BK188
     obtain ⟨hfz11_0, hfz11_1, hfz11_2⟩ := fz3 BK188
     go_wp2
     go_meet
     case rel => exact ⟨_, (decide (a2_1 > (l0.length : Int))), (by first | rfl | (simp; done) | (simp [*]; done)), H', ⟨by first | omega | exact Nat.le_refl _⟩, ⟨by (with_reducible repeat (first | refine blk_drewN ?_ _ | refine blk_drew ?_ | refine blk_alloc ?_ _)); exact BK188.out⟩, ⟨by repeat (first | (with_reducible first | exact HB.out | apply below_alloc | apply pw_below_drewN | apply below_drew1 | refine below_set ?_ GE188.out) | exact HB.out)⟩⟩
  ·rw [if_neg c6] at H
   have c6b0 : ((l1.length : Int) == (l0.length : Int)) = false := beq_eq_false_iff_ne.mpr c6
   have c6b1 : ((l1.length : Int) != (l0.length : Int)) = true := bne_iff_ne.mpr c6
   have c6b2 : (l1.length == l0.length) = false := by first | simpa using c6 | (simp at c6 ⊢; omega)
   (first | rw [c6b0] | (simp only [i64_w, i32_w]; rw [c6b0]) | skip)
   have H' := Aside0.mk H
   clear H
   go_wp2
   go_meet
   case rel => exact ⟨_, (true), (by first | rfl | (simp; done) | (simp [*]; done)), H', ⟨by first | omega | exact Nat.le_refl _⟩, ⟨by (with_reducible repeat (first | refine blk_drewN ?_ _ | refine blk_drew ?_ | refine blk_alloc ?_ _)); exact BK188.out⟩, ⟨by repeat (first | (with_reducible first | exact HB.out | apply below_alloc | apply pw_below_drewN | apply below_drew1 | refine below_set ?_ GE188.out) | exact HB.out)⟩⟩
 case rest =>
  clear HC4
  try clear c1
  try clear p2
  try clear c6
  try clear c6b0
  try clear c6b1
  try clear c6b2
  try clear c7
  try clear c7b0
  try clear c9
  try clear c9b0
  try clear hcz10_0
  try clear hcz10_1
  try clear hcz10_2
  try clear hcz11_0
  try clear hcz11_1
  try clear hcz11_2
  try clear hcz8_0
  try clear hcz8_1
  try clear hcz8_2
  try clear hfz10_0
  try clear hfz10_1
  try clear hfz10_2
  try clear hfz11_0
  try clear hfz11_1
  try clear hfz11_2
  try clear hfz8_0
  try clear hfz8_1
  try clear hfz8_2
  obtain ⟨kq, x33_3, rfl, HA, HJ3, BK188, HB⟩ := hcut
  cases kq with
  | zero => exact absurd HA.out (by simp [stickfulref26_Places.j0])
  | succ kj3 =>
   have H := HA.out
   clear HA
   simp only [stickfulref26_Places.j0] at H
   by_cases c12 : x33_3 = true
   ·subst c12
    have H1 : (some (([] : List Int), 2)) = some (r1, r2) := by rw [if_pos rfl] at H; exact H
    clear H
    have H := H1
    clear H1
    simp only [Option.some.injEq, Prod.mk.injEq] at H
    obtain ⟨rfl, rfl⟩ := H
    go_wp2
    go_ret2
    exact ⟨_, by first | rfl | (simp [errW_none, errW_some] <;> rfl) | (simp [*, errW_none, errW_some] <;> rfl), by first | exact Kd.R_nil _ _ _ _ _ | exact Kd.N_nil _ _ _ _ _ | exact Kd.V_nil _ _ _ _ _ | exact Kd.Q_nil _ _ _ _ _ | exact Kd.S_nil _ _ _ _ _, by repeat (first | (with_reducible first | exact HB.out | apply below_alloc | apply pw_below_drewN | apply below_drew1 | refine below_set ?_ GE188.out) | exact HB.out)⟩
   ·replace c12 := Bool.eq_false_iff.mpr c12
    subst c12
    have H1 : (stickfulref26_Places.l0 kj3 l1 ([] : List Int) a2_0 a2_0 a2_1 a2_2) = some (r1, r2) := by rw [if_neg (show ¬ (false = true) by decide)] at H; exact H
    clear H
    have H := H1
    clear H1
    have H' := Aside0.mk H
    clear H
    obtain ⟨hcz13_0, hcz13_1, hcz13_2⟩ := cz3 BK188
    obtain ⟨hfz13_0, hfz13_1, hfz13_2⟩ := fz3 BK188
    go_wp2
    go_loopg [8, 9] kj3 (fun kq v8 v9 w' => ∃ (x8_2 : List Int) (x9_2 : Int), v9 = .int .i64 x9_2 ∧ Aside0 (stickfulref26_Places.l0 kq l1 x8_2 x9_2 a2_0 a2_1 a2_2 = some (r1, r2)) ∧ Aside0 (kq ≤ kj3) ∧ Aside0 (Kd.R (Kd.int .i64) 3 w' w.heap.size (fun _ => True) v8 x8_2) ∧ Aside0 (w'.heap[gb188]? = some (.cells #[.int .i64 a2_0, .int .i64 a2_1, .bool a2_2] 25 (0, 0))) ∧ Aside0 (Below w.heap.size w w'))
    case atStart => exact ⟨(([] : List Int)), (a2_0), (by first | rfl | (simp; done) | (simp [*]; done)), H', ⟨Nat.le_refl _⟩, ⟨by first | exact Kd.R_nil _ _ _ _ _ | exact Kd.N_nil _ _ _ _ _ | exact Kd.V_nil _ _ _ _ _ | exact Kd.Q_nil _ _ _ _ _ | exact Kd.S_nil _ _ _ _ _⟩, ⟨by (with_reducible repeat (first | refine blk_drewN ?_ _ | refine blk_drew ?_ | refine blk_alloc ?_ _)); exact BK188.out⟩, ⟨by repeat (first | (with_reducible first | exact HB.out | apply below_alloc | apply pw_below_drewN | apply below_drew1 | refine below_set ?_ GE188.out) | exact HB.out)⟩⟩
    case round =>
     clear H'
     try clear c1
     try clear p2
     try clear c6
     try clear c6b0
     try clear c6b1
     try clear c6b2
     try clear c7
     try clear c7b0
     try clear c9
     try clear c9b0
     try clear c12
     try clear c13
     try clear hcz10_0
     try clear hcz10_1
     try clear hcz10_2
     try clear hcz11_0
     try clear hcz11_1
     try clear hcz11_2
     try clear hcz13_0
     try clear hcz13_1
     try clear hcz13_2
     try clear hcz8_0
     try clear hcz8_1
     try clear hcz8_2
     try clear hfz10_0
     try clear hfz10_1
     try clear hfz10_2
     try clear hfz11_0
     try clear hfz11_1
     try clear hfz11_2
     try clear hfz13_0
     try clear hfz13_1
     try clear hfz13_2
     try clear hfz8_0
     try clear hfz8_1
     try clear hfz8_2
     try clear p2
     obtain ⟨x8_2, x9_2, rfl, HA, HK2, HO_8, BK188, HB⟩ := hrel
     cases gk with
     | zero => exact absurd HA.out (by simp [stickfulref26_Places.l0])
     | succ k2 =>
      have H := HA.out
      clear HA
      simp only [stickfulref26_Places.l0] at H
      by_cases c14 : x9_2 ≤ a2_1
      ·rw [if_pos c14] at H
       have c14b0 : decide (x9_2 ≤ a2_1) = true := decide_eq_true c14
       clear c14
       by_cases c15 : x9_2 = a2_1
       ·rw [if_pos c15] at H
        have c15b0 : (x9_2 == a2_1) = true := beq_iff_eq.mpr c15
        have c15b1 : (x9_2 != a2_1) = false := bne_eq_false_iff_eq.mpr c15
        clear c15
        by_cases c16 : x8_2.length < 17592186044416
        ·rw [if_pos c16] at H
         have LMc16 := Aside0.mk c16
         clear c16
         obtain ⟨y189, hy189⟩ : ∃ y_ : List Int, y_ = (x8_2 ++ [x9_2]) := ⟨_, rfl⟩
         replace H : (stickfulref26_Places.l0 k2 l1 y189 (wrap64 (x9_2 + 1)) a2_0 a2_1 a2_2) = some (r1, r2) := by first | (rw [hy189]; with_reducible exact H) | (have H2_ := (Option.bind_some _ _).symm.trans H; rw [hy189]; with_reducible exact H2_) | (have H2_ := (Option.bind_some _ _).symm.trans H; with_reducible exact H2_) | with_reducible exact H | (rw [hy189]; exact H) | exact H
         have Ny189 := Aside0.mk hy189
         clear hy189
         have H' := Aside0.mk H
         clear H
         obtain ⟨hcz17_0, hcz17_1, hcz17_2⟩ := cz3 BK188
         obtain ⟨hfz17_0, hfz17_1, hfz17_2⟩ := fz3 BK188
         go_wp2_with (first | ((with_reducible refine gate_builtin (b := .append) (xs := #[.tmp 52, .tmp 54]) rfl ?_); (try (refine gate_guard (by rfl) ?_; dsimp only)); at_builtin; refine Kd.R_append (Kd.int .i64) (w0 := w) w.heap.size rfl (.tmp 52) (.tmp 54) 37 3 (.int .i64 0) 8 rfl Try.underlying37 info3 rfl (by decide) (by omega) u8 x8_2 x9_2 [.int .i64 x9_2] (fun _ => True) (fun _ => False) rfl rfl ?aP (fun _ hk => hk.elim) ?aF ?aO ?aB ?aS ?aL ?_; (case aP => exact rfl); (case aB => exact (bw HB)); (case aF => exact (fun _ _ => trivial)); (case aO => exact (rx HO_8)); (case aS => exact (below_size (bw HB))); (case aL => have := LMc16.out; omega); intro v190 w18 ho hb hg hat; rw [← Ny189.out] at ho; replace BK188 := Aside0.mk (blk_grown (bx BK188) hg (by first | exact Kd.R_ne HO_8.out BK188.out (by decide) | exact (fun e => by have z := And.left HO_8.out _ e.symm; simp at z))); replace HB := Aside0.mk (hb); have HO191 := Aside0.mk (ho); clear HO_8; clear ho hb hg hat))
         go_roundg k2
         case measure => have := HJ3.out; have := HK2.out; omega
         case rel => exact ⟨(y189), (wrap64 (x9_2 + 1)), (by first | rfl | (simp; done) | (simp [*]; done)), H', ⟨by have := HJ3.out; have := HK2.out; omega⟩, ⟨by (with_reducible repeat (first | apply Kd.R_alloc | apply Kd.R_drewN | apply Kd.R_drew)); exact HO191.out⟩, ⟨by (with_reducible repeat (first | refine blk_drewN ?_ _ | refine blk_drew ?_ | refine blk_alloc ?_ _)); exact BK188.out⟩, ⟨by repeat (first | (with_reducible first | exact HB.out | apply below_alloc | apply pw_below_drewN | apply below_drew1 | refine below_set ?_ GE188.out) | exact HB.out)⟩⟩
        ·rw [if_neg c16] at H
         exact absurd H (by simp)
       ·rw [if_neg c15] at H
        have c15b0 : (x9_2 == a2_1) = false := beq_eq_false_iff_ne.mpr c15
        have c15b1 : (x9_2 != a2_1) = true := bne_iff_ne.mpr c15
        by_cases c19 : 0 ≤ x9_2
        ·rw [if_pos c19] at H
         have c19b0 : decide (0 ≤ x9_2) = true := decide_eq_true c19
         clear c19
         by_cases c20 : x9_2 < (l1.length : Int)
         ·rw [if_pos c20] at H
          have c20b0 : decide (x9_2 < (l1.length : Int)) = true := decide_eq_true c20
          clear c20
          obtain ⟨bq21, hbq21⟩ : ∃ b_ : Bool, b_ = (rdOf false l1 x9_2) := ⟨_, rfl⟩
          replace H : (if bq21 = true then (if x8_2.length < 17592186044416 then (stickfulref26_Places.l0 k2 l1 (x8_2 ++ [x9_2]) (wrap64 (x9_2 + 1)) a2_0 a2_1 a2_2) else (none)) else (stickfulref26_Places.l0 k2 l1 x8_2 (wrap64 (x9_2 + 1)) a2_0 a2_1 a2_2)) = some (r1, r2) := by rw [← hbq21] at H; exact H
          have Nbq21 := Aside0.mk hbq21
          clear hbq21
          by_cases c22 : bq21 = true
          ·subst c22
           have H1 : (if x8_2.length < 17592186044416 then (stickfulref26_Places.l0 k2 l1 (x8_2 ++ [x9_2]) (wrap64 (x9_2 + 1)) a2_0 a2_1 a2_2) else (none)) = some (r1, r2) := by rw [if_pos rfl] at H; exact H
           clear H
           have H := H1
           clear H1
           by_cases c23 : x8_2.length < 17592186044416
           ·rw [if_pos c23] at H
            have LMc23 := Aside0.mk c23
            clear c23
            obtain ⟨y193, hy193⟩ : ∃ y_ : List Int, y_ = (x8_2 ++ [x9_2]) := ⟨_, rfl⟩
            replace H : (stickfulref26_Places.l0 k2 l1 y193 (wrap64 (x9_2 + 1)) a2_0 a2_1 a2_2) = some (r1, r2) := by first | (rw [hy193]; with_reducible exact H) | (have H2_ := (Option.bind_some _ _).symm.trans H; rw [hy193]; with_reducible exact H2_) | (have H2_ := (Option.bind_some _ _).symm.trans H; with_reducible exact H2_) | with_reducible exact H | (rw [hy193]; exact H) | exact H
            have Ny193 := Aside0.mk hy193
            clear hy193
            have H' := Aside0.mk H
            clear H
            obtain ⟨hcz24_0, hcz24_1, hcz24_2⟩ := cz3 BK188
            obtain ⟨hfz24_0, hfz24_1, hfz24_2⟩ := fz3 BK188
            have p192 : 0 ≤ (x9_2 : Int) := of_decide_eq_true (by first | (with_reducible assumption) | assumption)
            have q192 : x9_2 < (l1.length : Int) := of_decide_eq_true (by first | (with_reducible assumption) | assumption)
            obtain ⟨ad192, e192, hx192_0⟩ := Kd.at_bool HR1.out x9_2 p192 q192
            (try rw [← Nbq21.out] at hx192_0)
            cases e192
            replace hx192_0 := (HB.out.cell (World.block_lt_of_cell? w _ hx192_0)).trans hx192_0
            replace p192 := eq_true p192
            replace q192 := eq_true q192
            go_wp2_with (first | ((with_reducible refine gate_builtin (b := .append) (xs := #[.tmp 52, .tmp 54]) rfl ?_); (try (refine gate_guard (by rfl) ?_; dsimp only)); at_builtin; refine Kd.R_append (Kd.int .i64) (w0 := w) w.heap.size rfl (.tmp 52) (.tmp 54) 37 3 (.int .i64 0) 8 rfl Try.underlying37 info3 rfl (by decide) (by omega) u8 x8_2 x9_2 [.int .i64 x9_2] (fun _ => True) (fun _ => False) rfl rfl ?aP (fun _ hk => hk.elim) ?aF ?aO ?aB ?aS ?aL ?_; (case aP => exact rfl); (case aB => exact (bw HB)); (case aF => exact (fun _ _ => trivial)); (case aO => exact (rx HO_8)); (case aS => exact (below_size (bw HB))); (case aL => have := LMc23.out; omega); intro v194 w25 ho hb hg hat; rw [← Ny193.out] at ho; replace BK188 := Aside0.mk (blk_grown (bx BK188) hg (by first | exact Kd.R_ne HO_8.out BK188.out (by decide) | exact (fun e => by have z := And.left HO_8.out _ e.symm; simp at z))); replace HB := Aside0.mk (hb); have HO195 := Aside0.mk (ho); clear HO_8; clear ho hb hg hat))
            go_roundg k2
            case measure => have := HJ3.out; have := HK2.out; omega
            case rel => exact ⟨(y193), (wrap64 (x9_2 + 1)), (by first | rfl | (simp; done) | (simp [*]; done)), H', ⟨by have := HJ3.out; have := HK2.out; omega⟩, ⟨by (with_reducible repeat (first | apply Kd.R_alloc | apply Kd.R_drewN | apply Kd.R_drew)); exact HO195.out⟩, ⟨by (with_reducible repeat (first | refine blk_drewN ?_ _ | refine blk_drew ?_ | refine blk_alloc ?_ _)); exact BK188.out⟩, ⟨by repeat (first | (with_reducible first | exact HB.out | apply below_alloc | apply pw_below_drewN | apply below_drew1 | refine below_set ?_ GE188.out) | exact HB.out)⟩⟩
           ·rw [if_neg c23] at H
            exact absurd H (by simp)
          ·replace c22 := Bool.eq_false_iff.mpr c22
           subst c22
           have H1 : (stickfulref26_Places.l0 k2 l1 x8_2 (wrap64 (x9_2 + 1)) a2_0 a2_1 a2_2) = some (r1, r2) := by rw [if_neg (show ¬ (false = true) by decide)] at H; exact H
           clear H
           have H := H1
           clear H1
           have H' := Aside0.mk H
           clear H
           obtain ⟨hcz26_0, hcz26_1, hcz26_2⟩ := cz3 BK188
           obtain ⟨hfz26_0, hfz26_1, hfz26_2⟩ := fz3 BK188
           have p192 : 0 ≤ (x9_2 : Int) := of_decide_eq_true (by first | (with_reducible assumption) | assumption)
           have q192 : x9_2 < (l1.length : Int) := of_decide_eq_true (by first | (with_reducible assumption) | assumption)
           obtain ⟨ad192, e192, hx192_0⟩ := Kd.at_bool HR1.out x9_2 p192 q192
           (try rw [← Nbq21.out] at hx192_0)
           cases e192
           replace hx192_0 := (HB.out.cell (World.block_lt_of_cell? w _ hx192_0)).trans hx192_0
           replace p192 := eq_true p192
           replace q192 := eq_true q192
           go_wp2
           go_roundg k2
           case measure => have := HJ3.out; have := HK2.out; omega
           case rel => exact ⟨(x8_2), (wrap64 (x9_2 + 1)), (by first | rfl | (simp; done) | (simp [*]; done)), H', ⟨by have := HJ3.out; have := HK2.out; omega⟩, ⟨by (with_reducible repeat (first | apply Kd.R_alloc | apply Kd.R_drewN | apply Kd.R_drew)); exact HO_8.out⟩, ⟨by (with_reducible repeat (first | refine blk_drewN ?_ _ | refine blk_drew ?_ | refine blk_alloc ?_ _)); exact BK188.out⟩, ⟨by repeat (first | (with_reducible first | exact HB.out | apply below_alloc | apply pw_below_drewN | apply below_drew1 | refine below_set ?_ GE188.out) | exact HB.out)⟩⟩
         ·rw [if_neg c20] at H
          exact absurd H (by simp)
        ·rw [if_neg c19] at H
         exact absurd H (by simp)
      ·rw [if_neg c14] at H
       have c14b0 : decide (x9_2 ≤ a2_1) = false := decide_eq_false c14
       clear c14
       simp only [Option.some.injEq, Prod.mk.injEq] at H
       obtain ⟨rfl, rfl⟩ := H
       obtain ⟨hcz27_0, hcz27_1, hcz27_2⟩ := cz3 BK188
       obtain ⟨hfz27_0, hfz27_1, hfz27_2⟩ := fz3 BK188
       go_wp2
       go_ret2
       exact ⟨_, by first | rfl | (simp [errW_none, errW_some] <;> rfl) | (simp [*, errW_none, errW_some] <;> rfl), by (with_reducible repeat (first | apply Kd.R_alloc | apply Kd.R_drewN | apply Kd.R_drew)); exact HO_8.out, by repeat (first | (with_reducible first | exact HB.out | apply below_alloc | apply pw_below_drewN | apply below_drew1 | refine below_set ?_ GE188.out) | exact HB.out)⟩

/-! ### stickfulref13_edge: function 65 -/
def stickfulref13_edge.f (a0_0 a0_1 a0_2 a0_3 : Int) (a0_4 a0_5 : Bool) : Option (Bool) := if a0_0 = 7 then (some true) else (if a0_0 = 8 then (some true) else (some (a0_0 == 5)))
set_option maxHeartbeats 8000000 in
set_option maxRecDepth 100000 in
theorem stickfulref13_edge.calls (a0_0 a0_1 a0_2 a0_3 : Int) (a0_4 a0_5 r : Bool) (w : World) (h : stickfulref13_edge.f a0_0 a0_1 a0_2 a0_3 a0_4 a0_5 = some r) :
  Calls Try.prog 65 #[.agg #[.int .u8 a0_0, .int .i64 a0_1, .int .i64 a0_2, .int .i64 a0_3, .bool a0_4, .bool a0_5]] w fun e w' => e = .returned (.bool r) ∧ Below w.heap.size w w' := by
 have hu53 := Try.underlying53
 have HB := Aside0.mk (Below.refl w.heap.size w)
 have H : (if a0_0 = 7 then (some true) else (if a0_0 = 8 then (some true) else (some (a0_0 == 5)))) = some r := h
 clear h
 by_cases c2 : a0_0 = 7
 ·rw [if_pos c2] at H
  have c2b0 : (a0_0 == 7) = true := beq_iff_eq.mpr c2
  have c2b1 : (a0_0 != 7) = false := bne_eq_false_iff_eq.mpr c2
  clear c2
  obtain rfl := Option.some.inj H
  go_enter Try.func65, Try.ntmps65
  go_wp2_with (first | ((with_reducible refine gate_dst (N := 1) rfl ?_); refine box_event ?hg (N := 1) ?hd (cs := #[.int .u8 a0_0, .int .i64 a0_1, .int .i64 a0_2, .int .i64 a0_3, .bool a0_4, .bool a0_5]) (t := 53) ?hr ?_; (case hd => rfl); (case hg => rfl); (case hr => first | (go_simp; done) | (go_simp; rfl)); intro gb196 hg w3 hbox hb; have BK196 := Aside0.mk (hbox); have GW196 := bge HB hg; have GE196 := bge HB hg; replace HB := bh HB hb; clear hb hbox hg; obtain ⟨hcz4_0, hcz4_1, hcz4_2, hcz4_3, hcz4_4, hcz4_5⟩ := cz6 BK196; obtain ⟨hfz4_0, hfz4_1, hfz4_2, hfz4_3, hfz4_4, hfz4_5⟩ := fz6 BK196))
  go_ret
  exact ⟨by first | rfl | (simp [errW_none, errW_some] <;> rfl) | (simp [*, errW_none, errW_some] <;> rfl), by repeat (first | (with_reducible first | exact HB.out | apply below_alloc | apply pw_below_drewN | apply below_drew1 | refine below_set ?_ GE196.out) | exact HB.out)⟩
 ·rw [if_neg c2] at H
  have c2b0 : (a0_0 == 7) = false := beq_eq_false_iff_ne.mpr c2
  have c2b1 : (a0_0 != 7) = true := bne_iff_ne.mpr c2
  by_cases c5 : a0_0 = 8
  ·rw [if_pos c5] at H
   have c5b0 : (a0_0 == 8) = true := beq_iff_eq.mpr c5
   have c5b1 : (a0_0 != 8) = false := bne_eq_false_iff_eq.mpr c5
   clear c5
   obtain rfl := Option.some.inj H
   go_enter Try.func65, Try.ntmps65
   go_wp2_with (first | ((with_reducible refine gate_dst (N := 1) rfl ?_); refine box_event ?hg (N := 1) ?hd (cs := #[.int .u8 a0_0, .int .i64 a0_1, .int .i64 a0_2, .int .i64 a0_3, .bool a0_4, .bool a0_5]) (t := 53) ?hr ?_; (case hd => rfl); (case hg => rfl); (case hr => first | (go_simp; done) | (go_simp; rfl)); intro gb196 hg w6 hbox hb; have BK196 := Aside0.mk (hbox); have GW196 := bge HB hg; have GE196 := bge HB hg; replace HB := bh HB hb; clear hb hbox hg; obtain ⟨hcz7_0, hcz7_1, hcz7_2, hcz7_3, hcz7_4, hcz7_5⟩ := cz6 BK196; obtain ⟨hfz7_0, hfz7_1, hfz7_2, hfz7_3, hfz7_4, hfz7_5⟩ := fz6 BK196))
   go_ret
   exact ⟨by first | rfl | (simp [errW_none, errW_some] <;> rfl) | (simp [*, errW_none, errW_some] <;> rfl), by repeat (first | (with_reducible first | exact HB.out | apply below_alloc | apply pw_below_drewN | apply below_drew1 | refine below_set ?_ GE196.out) | exact HB.out)⟩
  ·rw [if_neg c5] at H
   have c5b0 : (a0_0 == 8) = false := beq_eq_false_iff_ne.mpr c5
   have c5b1 : (a0_0 != 8) = true := bne_iff_ne.mpr c5
   obtain rfl := Option.some.inj H
   go_enter Try.func65, Try.ntmps65
   go_wp2_with (first | ((with_reducible refine gate_dst (N := 1) rfl ?_); refine box_event ?hg (N := 1) ?hd (cs := #[.int .u8 a0_0, .int .i64 a0_1, .int .i64 a0_2, .int .i64 a0_3, .bool a0_4, .bool a0_5]) (t := 53) ?hr ?_; (case hd => rfl); (case hg => rfl); (case hr => first | (go_simp; done) | (go_simp; rfl)); intro gb196 hg w8 hbox hb; have BK196 := Aside0.mk (hbox); have GW196 := bge HB hg; have GE196 := bge HB hg; replace HB := bh HB hb; clear hb hbox hg; obtain ⟨hcz9_0, hcz9_1, hcz9_2, hcz9_3, hcz9_4, hcz9_5⟩ := cz6 BK196; obtain ⟨hfz9_0, hfz9_1, hfz9_2, hfz9_3, hfz9_4, hfz9_5⟩ := fz6 BK196))
   go_ret
   exact ⟨by first | rfl | (simp [errW_none, errW_some] <;> rfl) | (simp [*, errW_none, errW_some] <;> rfl), by repeat (first | (with_reducible first | exact HB.out | apply below_alloc | apply pw_below_drewN | apply below_drew1 | refine below_set ?_ GE196.out) | exact HB.out)⟩

end Go.Proofs.Ytkaiibipcnlaiaa.HEll
