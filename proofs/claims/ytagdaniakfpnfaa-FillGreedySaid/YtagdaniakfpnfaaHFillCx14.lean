-- Written by this claim's own program over the kit's print.
import Derived.Test.YtagdaniakfpnfaaHFillCb
import Derived.Test.YtagdaniakfpnfaaHFillCx0
import Derived.Test.YtagdaniakfpnfaaHFillCx1
import Derived.Test.YtagdaniakfpnfaaHFillCx13
import Derived.Test.YtagdaniakfpnfaaHand3
import Derived.Test.YtagdaniakfpnfaaHand4
import Derived.StillTailTactics
import Derived.Laws.Externs
import Derived.BigFrameIn
import Derived.Lib.Hide
import Derived.Test.YtagdaniakfpnfaaHand9
import Derived.Sort.LoopGhostIn
import Derived.BigQuiet
namespace Go.Proofs.Ytagdaniakfpnfaa.HFillC
open Go.RowKit Go.Proofs.YtagdaniakfpnfaaW.PrintWords Go.Proofs.YtagdaniakfpnfaaW.PrintLast Go.Proofs.YtagdaniakfpnfaaW.PrintMore Go.Proofs.Ytagdaniakfpnfaa.Hand
attribute [local go_sem] max2_int min2_int max_two min_two max_three min_three max_four min_four   -- for this text's walks alone
set_option linter.unusedVariables false
set_option linter.unusedSimpArgs false

attribute [local go_sem high] eqA35
/-! ### stickfullaw14_row: function 17 -/
mutual
def stickfullaw14_row.l0 : Nat → List Int → List Int → List Int → List (S44) → Int → Option ((List (S44)))
 | 0, _, _, _, _, _ => none
 | k + 1, x0, x1, x2, x7, x8 => if x8 < (x0.length : Int) then (if 0 ≤ x8 then (if (rd x0 x8) = 5 then (if x7.length < 3518437208883 then (stickfullaw14_row.l0 k x0 x1 x2 (x7 ++ [(⟨rd x0 x8, 0, 0, 0, false, false⟩ : S44)]) (wrap64 (x8 + 1))) else (none)) else (if x7.length < 3518437208883 then (stickfullaw14_row.l0 k x0 x1 x2 (x7 ++ [(⟨rd x0 x8, 0, 0, 5, false, false⟩ : S44)]) (wrap64 (x8 + 1))) else (none))) else (none)) else (stickfullaw14_row.l1 k x1 x2 x7 0)
def stickfullaw14_row.l1 : Nat → List Int → List Int → List (S44) → Int → Option ((List (S44)))
 | 0, _, _, _, _ => none
 | k + 1, x1, x2, x7, x10 => if x10 < (x1.length : Int) then (if 0 ≤ x10 then (if 0 ≤ (rd x1 x10) then (if (rd x1 x10) < (x7.length : Int) then (stickfullaw14_row.l1 k x1 x2 (x7.set ((rd x1 x10) : Int).toNat (⟨(rd_T44 x7 (rd x1 x10)).f0, (rd_T44 x7 (rd x1 x10)).f1, (rd_T44 x7 (rd x1 x10)).f2, (rd_T44 x7 (rd x1 x10)).f3, true, (rd_T44 x7 (rd x1 x10)).f5⟩ : S44)) (wrap64 (x10 + 1))) else (none)) else (none)) else (none)) else (stickfullaw14_row.l2 k x2 x7 0)
def stickfullaw14_row.l2 : Nat → List Int → List (S44) → Int → Option ((List (S44)))
 | 0, _, _, _ => none
 | k + 1, x2, x7, x11 => if x11 < (x2.length : Int) then (if 0 ≤ x11 then (if 0 ≤ (rd x2 x11) then (if (rd x2 x11) < (x7.length : Int) then (stickfullaw14_row.l2 k x2 (x7.set ((rd x2 x11) : Int).toNat (⟨(rd_T44 x7 (rd x2 x11)).f0, (rd_T44 x7 (rd x2 x11)).f1, (rd_T44 x7 (rd x2 x11)).f2, (rd_T44 x7 (rd x2 x11)).f3, (rd_T44 x7 (rd x2 x11)).f4, true⟩ : S44)) (wrap64 (x11 + 1))) else (none)) else (none)) else (none)) else (some x7)
end
def stickfullaw14_row.f (k : Nat) (l0 : List Int) (l1 : List Int) (l2 : List Int) : Option ((List (S44))) := stickfullaw14_row.l0 k l0 l1 l2 ([] : List (S44)) 0
theorem stickfullaw14_row.mono_l : ∀ k, (∀ y0 y1 y2 y3 y4, LeO (stickfullaw14_row.l0 k y0 y1 y2 y3 y4) (stickfullaw14_row.l0 (k + 1) y0 y1 y2 y3 y4)) ∧ (∀ y0 y1 y2 y3, LeO (stickfullaw14_row.l1 k y0 y1 y2 y3) (stickfullaw14_row.l1 (k + 1) y0 y1 y2 y3)) ∧ (∀ y0 y1 y2, LeO (stickfullaw14_row.l2 k y0 y1 y2) (stickfullaw14_row.l2 (k + 1) y0 y1 y2))
 | 0 => ⟨fun _ _ _ _ _ r h => by simp [stickfullaw14_row.l0] at h, fun _ _ _ _ r h => by simp [stickfullaw14_row.l1] at h, fun _ _ _ r h => by simp [stickfullaw14_row.l2] at h⟩
 | k + 1 => by
  obtain ⟨ih0, ih1, ih2⟩ := stickfullaw14_row.mono_l k
  refine ⟨?_, ?_, ?_⟩
  ·intro y0 y1 y2 y3 y4
   unfold stickfullaw14_row.l0
   repeat' first
   | (with_reducible exact ih0 _ _ _ _ _)
   | (with_reducible exact ih1 _ _ _ _)
   | (with_reducible exact ih2 _ _ _)
   | (with_reducible exact LeO.refl _)
   | (with_reducible exact LeO.none _)
   | (with_reducible refine LeO.ite ?_ ?_)
   | (with_reducible refine LeO.bind ?_ (fun _ => ?_))
   | exact ih0 _ _ _ _ _
   | exact ih1 _ _ _ _
   | exact ih2 _ _ _
   | exact LeO.none _
   | refine LeO.ite ?_ ?_
   | refine LeO.bind ?_ (fun _ => ?_)
  ·intro y0 y1 y2 y3
   unfold stickfullaw14_row.l1
   repeat' first
   | (with_reducible exact ih0 _ _ _ _ _)
   | (with_reducible exact ih1 _ _ _ _)
   | (with_reducible exact ih2 _ _ _)
   | (with_reducible exact LeO.refl _)
   | (with_reducible exact LeO.none _)
   | (with_reducible refine LeO.ite ?_ ?_)
   | (with_reducible refine LeO.bind ?_ (fun _ => ?_))
   | exact ih0 _ _ _ _ _
   | exact ih1 _ _ _ _
   | exact ih2 _ _ _
   | exact LeO.none _
   | refine LeO.ite ?_ ?_
   | refine LeO.bind ?_ (fun _ => ?_)
  ·intro y0 y1 y2
   unfold stickfullaw14_row.l2
   repeat' first
   | (with_reducible exact ih0 _ _ _ _ _)
   | (with_reducible exact ih1 _ _ _ _)
   | (with_reducible exact ih2 _ _ _)
   | (with_reducible exact LeO.refl _)
   | (with_reducible exact LeO.none _)
   | (with_reducible refine LeO.ite ?_ ?_)
   | (with_reducible refine LeO.bind ?_ (fun _ => ?_))
   | exact ih0 _ _ _ _ _
   | exact ih1 _ _ _ _
   | exact ih2 _ _ _
   | exact LeO.none _
   | refine LeO.ite ?_ ?_
   | refine LeO.bind ?_ (fun _ => ?_)
theorem stickfullaw14_row.mono : ∀ a0 a1 a2 k, LeO (stickfullaw14_row.f k a0 a1 a2) (stickfullaw14_row.f (k + 1) a0 a1 a2) := by
 intro a0 a1 a2 k
 obtain ⟨ih0, ih1, ih2⟩ := stickfullaw14_row.mono_l k
 unfold stickfullaw14_row.f
 repeat' first
   | (with_reducible exact ih0 _ _ _ _ _)
   | (with_reducible exact ih1 _ _ _ _)
   | (with_reducible exact ih2 _ _ _)
   | (with_reducible exact LeO.refl _)
   | (with_reducible exact LeO.none _)
   | (with_reducible refine LeO.ite ?_ ?_)
   | (with_reducible refine LeO.bind ?_ (fun _ => ?_))
   | exact ih0 _ _ _ _ _
   | exact ih1 _ _ _ _
   | exact ih2 _ _ _
   | exact LeO.none _
   | refine LeO.ite ?_ ?_
   | refine LeO.bind ?_ (fun _ => ?_)
set_option maxHeartbeats 8000000 in
set_option maxRecDepth 100000 in
theorem stickfullaw14_row.calls (k : Nat) (A0 : Option Addr) (c0 : Nat) (l0 : List Int) (A1 : Option Addr) (c1 : Nat) (l1 : List Int) (A2 : Option Addr) (c2 : Nat) (l2 : List Int) (r : List (S44)) (w : World) (hr0 : Kd.C (Kd.int .u8) w A0 l0.length l0) (hc0 : l0.length ≤ c0) (hr1 : Kd.C (Kd.int .i64) w A1 l1.length l1) (hc1 : l1.length ≤ c1) (hr2 : Kd.C (Kd.int .i64) w A2 l2.length l2) (hc2 : l2.length ≤ c2) (h : stickfullaw14_row.f k l0 l1 l2 = some r) :
  Calls Try.prog 17 #[.slice A0 l0.length c0, .slice A1 l1.length c1, .slice A2 l2.length c2] w fun e w' => ∃ v0_ : Value, e = .returned (v0_) ∧ Kd.R k44 44 w' w.heap.size (fun _ => True) v0_ r ∧ Below w.heap.size w w' := by
 have hu44 := Try.underlying44
 have HR0 := Aside0.mk hr0
 have HC0 := Aside0.mk hc0
 clear hr0 hc0
 have HR1 := Aside0.mk hr1
 have HC1 := Aside0.mk hc1
 clear hr1 hc1
 have HR2 := Aside0.mk hr2
 have HC2 := Aside0.mk hc2
 clear hr2 hc2
 have HB := Aside0.mk (Below.refl w.heap.size w)
 have H : (stickfullaw14_row.l0 k l0 l1 l2 ([] : List (S44)) 0) = some r := h
 clear h
 have H' := Aside0.mk H
 clear H
 go_enter Try.func17, Try.ntmps17
 go_wp2
 go_loopg [7, 8] k (fun kq v7 v8 w' => ∃ (x7_1 : List (S44)) (x8_1 : Int), v8 = .int .i64 x8_1 ∧ Aside0 (stickfullaw14_row.l0 kq l0 l1 l2 x7_1 x8_1 = some r) ∧ Aside0 (kq ≤ k) ∧ Aside0 (Kd.R k44 44 w' w.heap.size (fun _ => True) v7 x7_1) ∧ Aside0 (Below w.heap.size w w'))
 case atStart => exact ⟨(([] : List (S44))), (0), (by first | rfl | (simp; done) | (simp [*]; done)), H', ⟨Nat.le_refl _⟩, ⟨by first | exact Kd.R_nil _ _ _ _ _ | exact Kd.N_nil _ _ _ _ _ | exact Kd.V_nil _ _ _ _ _ | exact Kd.Q_nil _ _ _ _ _ | exact Kd.S_nil _ _ _ _ _⟩, ⟨by repeat (first | (with_reducible first | exact HB.out | apply below_alloc | apply pw_below_drewN | apply below_drew1) | exact HB.out)⟩⟩
 case round =>
  clear H'
  try clear c1
  try clear c2
  try clear p2
  obtain ⟨x7_1, x8_1, rfl, HA, HK1, HO_7, HB⟩ := hrel
  cases gk with
  | zero => exact absurd HA.out (by simp [stickfullaw14_row.l0])
  | succ k1 =>
   have H := HA.out
   clear HA
   simp only [stickfullaw14_row.l0] at H
   by_cases c4 : x8_1 < (l0.length : Int)
   ·rw [if_pos c4] at H
    have c4b0 : decide (x8_1 < (l0.length : Int)) = true := decide_eq_true c4
    clear c4
    by_cases c5 : 0 ≤ x8_1
    ·rw [if_pos c5] at H
     have c5b0 : decide (0 ≤ x8_1) = true := decide_eq_true c5
     clear c5
     by_cases c6 : (rd l0 x8_1) = 5
     ·rw [if_pos c6] at H
      have c6b0 : ((rd l0 x8_1) == 5) = true := beq_iff_eq.mpr c6
      have c6b1 : ((rd l0 x8_1) != 5) = false := bne_eq_false_iff_eq.mpr c6
      clear c6
      by_cases c7 : x7_1.length < 3518437208883
      ·rw [if_pos c7] at H
       have LMc7 := Aside0.mk c7
       clear c7
       obtain ⟨y145, hy145⟩ : ∃ y_ : List (S44), y_ = (x7_1 ++ [(⟨rd l0 x8_1, 0, 0, 0, false, false⟩ : S44)]) := ⟨_, rfl⟩
       replace H : (stickfullaw14_row.l0 k1 l0 l1 l2 y145 (wrap64 (x8_1 + 1))) = some r := by first | (rw [hy145]; with_reducible exact H) | (have H2_ := (Option.bind_some _ _).symm.trans H; rw [hy145]; with_reducible exact H2_) | (have H2_ := (Option.bind_some _ _).symm.trans H; with_reducible exact H2_) | with_reducible exact H | (rw [hy145]; exact H) | exact H
       have Ny145 := Aside0.mk hy145
       clear hy145
       have H' := Aside0.mk H
       clear H
       have p143 : 0 ≤ (x8_1 : Int) := of_decide_eq_true (by first | (with_reducible assumption) | assumption)
       have q143 : x8_1 < (l0.length : Int) := of_decide_eq_true (by first | (with_reducible assumption) | assumption)
       obtain ⟨ad143, e143, hx143_0⟩ := Kd.at_int HR0.out x8_1 p143 q143
       cases e143
       replace hx143_0 := (HB.out.cell (World.block_lt_of_cell? w _ hx143_0)).trans hx143_0
       replace p143 := eq_true p143
       replace q143 := eq_true q143
       go_wp2_with (first | ((with_reducible refine gate_dst (N := 9) rfl ?_); refine box_event ?hg (N := 9) ?hd (cs := #[.int .u8 0, .int .i64 0, .int .i64 0, .int .i64 0, .bool false, .bool false]) (t := 44) ?hr ?_; (case hd => rfl); (case hg => rfl); (case hr => first | (go_simp; done) | (go_simp; rfl)); intro gb144 hg w8 hbox hb; replace HO_7 := Aside0.mk (Kd.R_below (Kd.R_elderB (rx HO_7) gb144 (Nat.le_of_eq hg.symm)) hb); have BK144 := Aside0.mk (hbox); have GW144 := bge HB hg; have GE144 := bge HB hg; replace HB := bh HB hb; clear hb hbox hg; obtain ⟨hcz9_0, hcz9_1, hcz9_2, hcz9_3, hcz9_4, hcz9_5⟩ := cz6 BK144; obtain ⟨hfz9_0, hfz9_1, hfz9_2, hfz9_3, hfz9_4, hfz9_5⟩ := fz6 BK144) | ((with_reducible refine gate_store (t := 44) (p := 9) (v := .tmp 22) rfl ?_); refine Aside0.out ?_))
       refine Aside0.mk ?_
       refine Go.Proofs.Ytagdaniakfpnfaa.Hand.store_row_event rfl 44 (.tmp 9) (.tmp 22) rfl rfl gb144 #[.int .u8 (rd l0 x8_1), .int .i64 0, .int .i64 0, .int .i64 5, .bool false, .bool false] rfl rfl 44 _ BK144.out (by kernel_rfl) rfl (by simp [Value.oneCell']) ?_
       intro ws hs hk hb
       replace HO_7 := Aside0.mk (Kd.R_mono (Kd.R_keep HO_7.out hk (fun _ h => h.2)) (ok' := fun k => True ∧ k ≠ gb144) (fun _ h => h))
       replace BK144 := Aside0.mk hs; replace HB := Aside0.mk (hb _ _ GE144.out HB.out); clear hs hb hk hcz9_0 hfz9_0 hcz9_1 hfz9_1 hcz9_2 hfz9_2 hcz9_3 hfz9_3 hcz9_4 hfz9_4 hcz9_5 hfz9_5
       obtain ⟨hcz9_0, hcz9_1, hcz9_2, hcz9_3, hcz9_4, hcz9_5⟩ := cz6 BK144
       obtain ⟨hfz9_0, hfz9_1, hfz9_2, hfz9_3, hfz9_4, hfz9_5⟩ := fz6 BK144
       go_wp2_with (first | ((with_reducible refine gate_builtin (b := .append) (xs := #[.tmp 27, .tmp 29]) rfl ?_); at_builtin; refine Kd.R_append k44 (w0 := w) w.heap.size rfl (.tmp 27) (.tmp 29) 22 44 (.agg #[(.int .u8 0), (.int .i64 0), (.int .i64 0), (.int .i64 0), (.bool false), (.bool false)]) 40 rfl Try.underlying22 info44 rfl (by decide) (by omega) u7 x7_1 (⟨rd l0 x8_1, 0, 0, 0, false, false⟩ : S44) [.int .u8 (rd l0 x8_1), .int .i64 0, .int .i64 0, .int .i64 0, .bool false, .bool false] (fun k_ => k_ ≠ gb144) (fun _ => False) rfl (by first | (go_simp; done) | (go_simp; rfl)) ?aP (fun _ hk => hk.elim) ?aF ?aO ?aB ?aS ?aL ?_; (case aP => exact k44_mkM _ _ _ (⟨rd l0 x8_1, 0, 0, 0, false, false⟩ : S44)); (case aB => exact (bw HB)); (case aF => exact (fun k_ hk => Kd.freshB (o := .cells #[.int .u8 (rd l0 x8_1), .int .i64 0, .int .i64 0, .int .i64 0, .bool false, .bool false] 44 (0, 0)) (bp BK144) k_ hk)); (case aO => exact (by (with_reducible repeat (first | apply Kd.R_alloc | apply Kd.R_drewN | apply Kd.R_drew)); exact Kd.R_mono (Kd.R_far (p := ⟨gb144, 3, none⟩) (Kd.R_mono HO_7.out (fun k_ hk => (⟨hk, hk.2⟩ : _ ∧ k_ ≠ gb144))) (fun _ hk => hk.2) (.int .i64 0)) (fun _ hk => hk.1.2))); (case aS => exact (below_size (bw HB))); (case aL => have := LMc7.out; omega); intro v146 w10 ho hb hg hat; rw [← Ny145.out] at ho; replace BK144 := Aside0.mk (blk_grown (o := .cells #[.int .u8 (rd l0 x8_1), .int .i64 0, .int .i64 0, .int .i64 0, .bool false, .bool false] 44 (0, 0)) (bp BK144) hg (Kd.R_away HO_7.out (fun _ hk => hk.2))); replace HB := Aside0.mk (hb); have HO147 := Aside0.mk (ho); clear HO_7; clear ho hb hg hat))
       go_roundg k1
       case measure => have := HK1.out; omega
       case rel => exact ⟨(y145), (wrap64 (x8_1 + 1)), (by first | rfl | (simp; done) | (simp [*]; done)), H', ⟨by have := HK1.out; omega⟩, ⟨by (with_reducible repeat (first | apply Kd.R_alloc | apply Kd.R_drewN | apply Kd.R_drew)); exact Kd.R_mono HO147.out (fun _ hk => trivial)⟩, ⟨by repeat (first | (with_reducible first | exact HB.out | apply below_alloc | apply pw_below_drewN | apply below_drew1 | refine below_set ?_ GE144.out) | exact HB.out)⟩⟩
      ·rw [if_neg c7] at H
       exact absurd H (by simp)
     ·rw [if_neg c6] at H
      have c6b0 : ((rd l0 x8_1) == 5) = false := beq_eq_false_iff_ne.mpr c6
      have c6b1 : ((rd l0 x8_1) != 5) = true := bne_iff_ne.mpr c6
      by_cases c11 : x7_1.length < 3518437208883
      ·rw [if_pos c11] at H
       have LMc11 := Aside0.mk c11
       clear c11
       obtain ⟨y148, hy148⟩ : ∃ y_ : List (S44), y_ = (x7_1 ++ [(⟨rd l0 x8_1, 0, 0, 5, false, false⟩ : S44)]) := ⟨_, rfl⟩
       replace H : (stickfullaw14_row.l0 k1 l0 l1 l2 y148 (wrap64 (x8_1 + 1))) = some r := by first | (rw [hy148]; with_reducible exact H) | (have H2_ := (Option.bind_some _ _).symm.trans H; rw [hy148]; with_reducible exact H2_) | (have H2_ := (Option.bind_some _ _).symm.trans H; with_reducible exact H2_) | with_reducible exact H | (rw [hy148]; exact H) | exact H
       have Ny148 := Aside0.mk hy148
       clear hy148
       have H' := Aside0.mk H
       clear H
       have p143 : 0 ≤ (x8_1 : Int) := of_decide_eq_true (by first | (with_reducible assumption) | assumption)
       have q143 : x8_1 < (l0.length : Int) := of_decide_eq_true (by first | (with_reducible assumption) | assumption)
       obtain ⟨ad143, e143, hx143_0⟩ := Kd.at_int HR0.out x8_1 p143 q143
       cases e143
       replace hx143_0 := (HB.out.cell (World.block_lt_of_cell? w _ hx143_0)).trans hx143_0
       replace p143 := eq_true p143
       replace q143 := eq_true q143
       go_wp2_with (first | ((with_reducible refine gate_dst (N := 9) rfl ?_); refine box_event ?hg (N := 9) ?hd (cs := #[.int .u8 0, .int .i64 0, .int .i64 0, .int .i64 0, .bool false, .bool false]) (t := 44) ?hr ?_; (case hd => rfl); (case hg => rfl); (case hr => first | (go_simp; done) | (go_simp; rfl)); intro gb144 hg w12 hbox hb; replace HO_7 := Aside0.mk (Kd.R_below (Kd.R_elderB (rx HO_7) gb144 (Nat.le_of_eq hg.symm)) hb); have BK144 := Aside0.mk (hbox); have GW144 := bge HB hg; have GE144 := bge HB hg; replace HB := bh HB hb; clear hb hbox hg; obtain ⟨hcz13_0, hcz13_1, hcz13_2, hcz13_3, hcz13_4, hcz13_5⟩ := cz6 BK144; obtain ⟨hfz13_0, hfz13_1, hfz13_2, hfz13_3, hfz13_4, hfz13_5⟩ := fz6 BK144) | ((with_reducible refine gate_store (t := 44) (p := 9) (v := .tmp 22) rfl ?_); refine Aside0.out ?_))
       refine Aside0.mk ?_
       refine Go.Proofs.Ytagdaniakfpnfaa.Hand.store_row_event rfl 44 (.tmp 9) (.tmp 22) rfl rfl gb144 #[.int .u8 (rd l0 x8_1), .int .i64 0, .int .i64 0, .int .i64 5, .bool false, .bool false] rfl rfl 44 _ BK144.out (by kernel_rfl) rfl (by simp [Value.oneCell']) ?_
       intro ws hs hk hb
       replace HO_7 := Aside0.mk (Kd.R_mono (Kd.R_keep HO_7.out hk (fun _ h => h.2)) (ok' := fun k => True ∧ k ≠ gb144) (fun _ h => h))
       replace BK144 := Aside0.mk hs; replace HB := Aside0.mk (hb _ _ GE144.out HB.out); clear hs hb hk hcz13_0 hfz13_0 hcz13_1 hfz13_1 hcz13_2 hfz13_2 hcz13_3 hfz13_3 hcz13_4 hfz13_4 hcz13_5 hfz13_5
       obtain ⟨hcz13_0, hcz13_1, hcz13_2, hcz13_3, hcz13_4, hcz13_5⟩ := cz6 BK144
       obtain ⟨hfz13_0, hfz13_1, hfz13_2, hfz13_3, hfz13_4, hfz13_5⟩ := fz6 BK144
       go_wp2_with (first | ((with_reducible refine gate_builtin (b := .append) (xs := #[.tmp 27, .tmp 29]) rfl ?_); at_builtin; refine Kd.R_append k44 (w0 := w) w.heap.size rfl (.tmp 27) (.tmp 29) 22 44 (.agg #[(.int .u8 0), (.int .i64 0), (.int .i64 0), (.int .i64 0), (.bool false), (.bool false)]) 40 rfl Try.underlying22 info44 rfl (by decide) (by omega) u7 x7_1 (⟨rd l0 x8_1, 0, 0, 5, false, false⟩ : S44) [.int .u8 (rd l0 x8_1), .int .i64 0, .int .i64 0, .int .i64 5, .bool false, .bool false] (fun k_ => k_ ≠ gb144) (fun _ => False) rfl (by first | (go_simp; done) | (go_simp; rfl)) ?aP (fun _ hk => hk.elim) ?aF ?aO ?aB ?aS ?aL ?_; (case aP => exact k44_mkM _ _ _ (⟨rd l0 x8_1, 0, 0, 5, false, false⟩ : S44)); (case aB => exact (bw HB)); (case aF => exact (fun k_ hk => Kd.freshB (o := .cells #[.int .u8 (rd l0 x8_1), .int .i64 0, .int .i64 0, .int .i64 5, .bool false, .bool false] 44 (0, 0)) (bp BK144) k_ hk)); (case aO => exact (by (with_reducible repeat (first | apply Kd.R_alloc | apply Kd.R_drewN | apply Kd.R_drew)); exact Kd.R_mono HO_7.out (fun _ hk => hk.2))); (case aS => exact (below_size (bw HB))); (case aL => have := LMc11.out; omega); intro v149 w14 ho hb hg hat; rw [← Ny148.out] at ho; replace BK144 := Aside0.mk (blk_grown (o := .cells #[.int .u8 (rd l0 x8_1), .int .i64 0, .int .i64 0, .int .i64 5, .bool false, .bool false] 44 (0, 0)) (bp BK144) hg (Kd.R_away HO_7.out (fun _ hk => hk.2))); replace HB := Aside0.mk (hb); have HO150 := Aside0.mk (ho); clear HO_7; clear ho hb hg hat))
       go_roundg k1
       case measure => have := HK1.out; omega
       case rel => exact ⟨(y148), (wrap64 (x8_1 + 1)), (by first | rfl | (simp; done) | (simp [*]; done)), H', ⟨by have := HK1.out; omega⟩, ⟨by (with_reducible repeat (first | apply Kd.R_alloc | apply Kd.R_drewN | apply Kd.R_drew)); exact Kd.R_mono HO150.out (fun _ hk => trivial)⟩, ⟨by repeat (first | (with_reducible first | exact HB.out | apply below_alloc | apply pw_below_drewN | apply below_drew1 | refine below_set ?_ GE144.out) | exact HB.out)⟩⟩
      ·rw [if_neg c11] at H
       exact absurd H (by simp)
    ·rw [if_neg c5] at H
     exact absurd H (by simp)
   ·rw [if_neg c4] at H
    have c4b0 : decide (x8_1 < (l0.length : Int)) = false := decide_eq_false c4
    clear c4
    have H' := Aside0.mk H
    clear H
    go_wp2
    go_loopg [10] k1 (fun kq v10 w' => ∃ (x7_2 : List (S44)) (x10_2 : Int), v10 = .int .i64 x10_2 ∧ Aside0 (stickfullaw14_row.l1 kq l1 l2 x7_2 x10_2 = some r) ∧ Aside0 (kq ≤ k1) ∧ Aside0 (Kd.R k44 44 w' w.heap.size (fun _ => True) u7 x7_2) ∧ Aside0 (Below w.heap.size w w'))
    case atStart => exact ⟨(x7_1), (0), (by first | rfl | (simp; done) | (simp [*]; done)), H', ⟨Nat.le_refl _⟩, ⟨by (with_reducible repeat (first | apply Kd.R_alloc | apply Kd.R_drewN | apply Kd.R_drew)); exact HO_7.out⟩, ⟨by repeat (first | (with_reducible first | exact HB.out | apply below_alloc | apply pw_below_drewN | apply below_drew1) | exact HB.out)⟩⟩
    case round =>
     clear H'
     try clear c1
     try clear p1
     try clear q1
     try clear hx1
     try clear c2
     try clear p2
     try clear c4
     try clear c4b0
     try clear c5
     try clear c5b0
     try clear c6
     try clear c6b0
     try clear c6b1
     try clear p6
     try clear c7
     try clear c11
     try clear p14
     try clear q14
     try clear hx14
     try clear hcz13_0
     try clear hcz13_1
     try clear hcz13_2
     try clear hcz13_3
     try clear hcz13_4
     try clear hcz13_5
     try clear hcz9_0
     try clear hcz9_1
     try clear hcz9_2
     try clear hcz9_3
     try clear hcz9_4
     try clear hcz9_5
     try clear hfz13_0
     try clear hfz13_1
     try clear hfz13_2
     try clear hfz13_3
     try clear hfz13_4
     try clear hfz13_5
     try clear hfz9_0
     try clear hfz9_1
     try clear hfz9_2
     try clear hfz9_3
     try clear hfz9_4
     try clear hfz9_5
     try clear hx143_0
     try clear p143
     try clear p2
     try clear q143
     obtain ⟨x7_2, x10_2, rfl, HA, HK2, HO_7, HB⟩ := hrel
     cases gk with
     | zero => exact absurd HA.out (by simp [stickfullaw14_row.l1])
     | succ k2 =>
      have H := HA.out
      clear HA
      simp only [stickfullaw14_row.l1] at H
      by_cases c15 : x10_2 < (l1.length : Int)
      ·rw [if_pos c15] at H
       have c15b0 : decide (x10_2 < (l1.length : Int)) = true := decide_eq_true c15
       clear c15
       by_cases c16 : 0 ≤ x10_2
       ·rw [if_pos c16] at H
        have c16b0 : decide (0 ≤ x10_2) = true := decide_eq_true c16
        clear c16
        by_cases c17 : 0 ≤ (rd l1 x10_2)
        ·rw [if_pos c17] at H
         have c17b0 : decide (0 ≤ (rd l1 x10_2)) = true := decide_eq_true c17
         clear c17
         by_cases c18 : (rd l1 x10_2) < (x7_2.length : Int)
         ·rw [if_pos c18] at H
          have c18b0 : decide ((rd l1 x10_2) < (x7_2.length : Int)) = true := decide_eq_true c18
          clear c18
          obtain ⟨y152, hy152⟩ : ∃ y_ : List (S44), y_ = (x7_2.set ((rd l1 x10_2) : Int).toNat (⟨(rd_T44 x7_2 (rd l1 x10_2)).f0, (rd_T44 x7_2 (rd l1 x10_2)).f1, (rd_T44 x7_2 (rd l1 x10_2)).f2, (rd_T44 x7_2 (rd l1 x10_2)).f3, true, (rd_T44 x7_2 (rd l1 x10_2)).f5⟩ : S44)) := ⟨_, rfl⟩
          replace H : (stickfullaw14_row.l1 k2 l1 l2 y152 (wrap64 (x10_2 + 1))) = some r := by first | (rw [hy152]; with_reducible exact H) | (have H2_ := (Option.bind_some _ _).symm.trans H; rw [hy152]; with_reducible exact H2_) | (have H2_ := (Option.bind_some _ _).symm.trans H; with_reducible exact H2_) | with_reducible exact H | (rw [hy152]; exact H) | exact H
          have Ny152 := Aside0.mk hy152
          clear hy152
          have H' := Aside0.mk H
          clear H
          have p151 : 0 ≤ (x10_2 : Int) := of_decide_eq_true (by first | (with_reducible assumption) | assumption)
          have q151 : x10_2 < (l1.length : Int) := of_decide_eq_true (by first | (with_reducible assumption) | assumption)
          obtain ⟨ad151, e151, hx151_0⟩ := Kd.at_int HR1.out x10_2 p151 q151
          cases e151
          replace hx151_0 := (HB.out.cell (World.block_lt_of_cell? w _ hx151_0)).trans hx151_0
          replace p151 := eq_true p151
          replace q151 := eq_true q151
          have p19 : 0 ≤ ((rd l1 x10_2) : Int) := of_decide_eq_true (by first | (with_reducible assumption) | assumption)
          have q19 : ((rd l1 x10_2) : Int) < ((x7_2.length : Int) : Int) := of_decide_eq_true (by first | (with_reducible assumption) | assumption)
          obtain ⟨go19, co19, eo19, gb19, gl19, cl19, HG19⟩ := Kd.R_form HO_7.out (by omega)
          (first | cases eo19 | (injection eo19 with ea_ en_ ec_; (first | subst ea_ | (injection ea_ with ea_; subst ea_)); subst ec_; clear en_))
          have GB19 := Aside0.mk gb19
          have GG19 := Aside0.mk HG19
          clear gb19 gl19 HG19
          obtain ⟨ce19, hcl19, hM19, hcc19, hfr19⟩ := Kd.R_elem HO_7.out z44 ((rd l1 x10_2) : Int) p19 q19
          obtain rfl := k44_openM hM19
          have hx19_0 : wr.cell? ⟨go19, ((rd l1 x10_2) : Int).toNat * 6, none⟩ = some (.int .u8 ((rd_T44 x7_2 (rd l1 x10_2)).f0)) := hcc19 0 _ rfl
          have hx19_1 : wr.cell? ⟨go19, ((rd l1 x10_2) : Int).toNat * 6 + 1, none⟩ = some (.int .i64 ((rd_T44 x7_2 (rd l1 x10_2)).f1)) := hcc19 1 _ rfl
          have hx19_2 : wr.cell? ⟨go19, ((rd l1 x10_2) : Int).toNat * 6 + 2, none⟩ = some (.int .i64 ((rd_T44 x7_2 (rd l1 x10_2)).f2)) := hcc19 2 _ rfl
          have hx19_3 : wr.cell? ⟨go19, ((rd l1 x10_2) : Int).toNat * 6 + 3, none⟩ = some (.int .i64 ((rd_T44 x7_2 (rd l1 x10_2)).f3)) := hcc19 3 _ rfl
          have hx19_4 : wr.cell? ⟨go19, ((rd l1 x10_2) : Int).toNat * 6 + 4, none⟩ = some (.bool ((rd_T44 x7_2 (rd l1 x10_2)).f4)) := hcc19 4 _ rfl
          have hx19_5 : wr.cell? ⟨go19, ((rd l1 x10_2) : Int).toNat * 6 + 5, none⟩ = some (.bool ((rd_T44 x7_2 (rd l1 x10_2)).f5)) := hcc19 5 _ rfl
          have hf19_0 : wr.frozen? ⟨go19, ((rd l1 x10_2) : Int).toNat * 6, none⟩ = false := hfr19 0
          have hf19_1 : wr.frozen? ⟨go19, ((rd l1 x10_2) : Int).toNat * 6 + 1, none⟩ = false := hfr19 1
          have hf19_2 : wr.frozen? ⟨go19, ((rd l1 x10_2) : Int).toNat * 6 + 2, none⟩ = false := hfr19 2
          have hf19_3 : wr.frozen? ⟨go19, ((rd l1 x10_2) : Int).toNat * 6 + 3, none⟩ = false := hfr19 3
          have hf19_4 : wr.frozen? ⟨go19, ((rd l1 x10_2) : Int).toNat * 6 + 4, none⟩ = false := hfr19 4
          have hf19_5 : wr.frozen? ⟨go19, ((rd l1 x10_2) : Int).toNat * 6 + 5, none⟩ = false := hfr19 5
          clear hcl19 hcc19 hfr19 hM19
          replace p19 := eq_true p19
          replace q19 := eq_true q19
          have HX20 := Aside0.mk (show Kd.R k44 44 wr w.heap.size (fun _ => True) (.slice (some ⟨go19, 0, none⟩) x7_2.length co19) x7_2 from (rx HO_7))
          obtain ⟨ce20, hcl20, hM20, hcc20, hfr20⟩ := Kd.R_elem HX20.out z44 ((rd l1 x10_2) : Int) (of_decide_eq_true (by first | (with_reducible assumption) | assumption)) (by have h_ : ((rd l1 x10_2) : Int) < ((x7_2.length : Int) : Int) := of_decide_eq_true (by first | (with_reducible assumption) | assumption); first | exact h_ | (have e_ := (Kd.R_reads' HO_7.out).1; omega) | simpa using h_)
          obtain rfl := k44_openM hM20
          have HP20 := Kd.R_seg HX20.out ((rd l1 x10_2) : Int) (of_decide_eq_true (by first | (with_reducible assumption) | assumption)) (by have h_ : ((rd l1 x10_2) : Int) < ((x7_2.length : Int) : Int) := of_decide_eq_true (by first | (with_reducible assumption) | assumption); first | exact h_ | (have e_ := (Kd.R_reads' HO_7.out).1; omega) | simpa using h_) (seg := [.bool true]) (j := 4) hcl20 hcc20 (show 5 ≤ 6 from by decide) (x' := (⟨(rd_T44 x7_2 (rd l1 x10_2)).f0, (rd_T44 x7_2 (rd l1 x10_2)).f1, (rd_T44 x7_2 (rd l1 x10_2)).f2, (rd_T44 x7_2 (rd l1 x10_2)).f3, true, (rd_T44 x7_2 (rd l1 x10_2)).f5⟩ : S44)) (k44_mkM _ _ _ (⟨(rd_T44 x7_2 (rd l1 x10_2)).f0, (rd_T44 x7_2 (rd l1 x10_2)).f1, (rd_T44 x7_2 (rd l1 x10_2)).f2, (rd_T44 x7_2 (rd l1 x10_2)).f3, true, (rd_T44 x7_2 (rd l1 x10_2)).f5⟩ : S44) ) (fun _ hk => hk)
          have hx20_4 := hcc20 4 _ rfl
          (try simp only [show (k44).sz = 6 from rfl, Nat.mul_one, Nat.add_zero] at hx20_4)
          have hf20_4 := hfr20 4
          (try simp only [show (k44).sz = 6 from rfl, Nat.mul_one, Nat.add_zero] at hf20_4)
          clear hcl20 hcc20 hfr20 hM20
          go_wp2_with (first | ((with_reducible refine gate_store (t := 4) (p := 43) rfl ?_); refine store_event (t := 4) (p := 43) (v := ?vo_w21) (w1 := (wr.setCell ⟨go19, ((rd l1 x10_2) : Int).toNat * 6 + 4, none⟩ (.bool true))) ?hg ?ho ?hn ?hr ?_; (case ho => rfl); (case hg => rfl); (case hn => rfl); (case hr => first | (go_simp; done) | (go_simp; rfl)); intro w21 hw; have hg : wr.grownBy w21 (some go19) := (by rw [hw]; exact HP20.2); have hp_ : Kd.R k44 44 w21 w.heap.size (fun _ => True) (.slice (some ⟨go19, 0, none⟩) x7_2.length co19) y152 := (by rw [hw, Ny152.out]; exact HP20.1); clear HP20; replace HO_7 := Aside0.mk (hp_); replace HB := Aside0.mk ((by rw [hw]; exact below_set (HB.out) GB19.out : Below w.heap.size w w21)); clear hg hw hp_))
          go_roundg k2
          case measure => have := HK1.out; have := HK2.out; omega
          case rel => exact ⟨(y152), (wrap64 (x10_2 + 1)), (by first | rfl | (simp; done) | (simp [*]; done)), H', ⟨by have := HK1.out; have := HK2.out; omega⟩, ⟨by (with_reducible repeat (first | apply Kd.R_alloc | apply Kd.R_drewN | apply Kd.R_drew)); exact HO_7.out⟩, ⟨by repeat (first | (with_reducible first | exact HB.out | apply below_alloc | apply pw_below_drewN | apply below_drew1) | exact HB.out)⟩⟩
         ·rw [if_neg c18] at H
          exact absurd H (by simp)
        ·rw [if_neg c17] at H
         exact absurd H (by simp)
       ·rw [if_neg c16] at H
        exact absurd H (by simp)
      ·rw [if_neg c15] at H
       have c15b0 : decide (x10_2 < (l1.length : Int)) = false := decide_eq_false c15
       clear c15
       have H' := Aside0.mk H
       clear H
       go_wp2
       go_loopg [11] k2 (fun kq v11 w' => ∃ (x7_3 : List (S44)) (x11_3 : Int), v11 = .int .i64 x11_3 ∧ Aside0 (stickfullaw14_row.l2 kq l2 x7_3 x11_3 = some r) ∧ Aside0 (kq ≤ k2) ∧ Aside0 (Kd.R k44 44 w' w.heap.size (fun _ => True) u7 x7_3) ∧ Aside0 (Below w.heap.size w w'))
       case atStart => exact ⟨(x7_2), (0), (by first | rfl | (simp; done) | (simp [*]; done)), H', ⟨Nat.le_refl _⟩, ⟨by (with_reducible repeat (first | apply Kd.R_alloc | apply Kd.R_drewN | apply Kd.R_drew)); exact HO_7.out⟩, ⟨by repeat (first | (with_reducible first | exact HB.out | apply below_alloc | apply pw_below_drewN | apply below_drew1) | exact HB.out)⟩⟩
       case round =>
        clear H'
        try clear c1
        try clear p1
        try clear q1
        try clear hx1
        try clear c2
        try clear p2
        try clear hx2
        try clear c4
        try clear c4b0
        try clear c5
        try clear c5b0
        try clear c6
        try clear c6b0
        try clear c6b1
        try clear p6
        try clear c7
        try clear c11
        try clear p14
        try clear q14
        try clear hx14
        try clear c15
        try clear c15b0
        try clear p15
        try clear q15
        try clear hx15
        try clear c16
        try clear c16b0
        try clear c17
        try clear c17b0
        try clear c18
        try clear c18b0
        try clear c19
        try clear p19
        try clear q19
        try clear hx19
        try clear hf19
        try clear c20
        try clear hx20
        try clear hf20
        try clear hcz13_0
        try clear hcz13_1
        try clear hcz13_2
        try clear hcz13_3
        try clear hcz13_4
        try clear hcz13_5
        try clear hcz9_0
        try clear hcz9_1
        try clear hcz9_2
        try clear hcz9_3
        try clear hcz9_4
        try clear hcz9_5
        try clear hfz13_0
        try clear hfz13_1
        try clear hfz13_2
        try clear hfz13_3
        try clear hfz13_4
        try clear hfz13_5
        try clear hfz9_0
        try clear hfz9_1
        try clear hfz9_2
        try clear hfz9_3
        try clear hfz9_4
        try clear hfz9_5
        try clear hx143_0
        try clear hx151_0
        try clear hx19_0
        try clear hx19_1
        try clear hx19_2
        try clear hx19_3
        try clear hx19_4
        try clear hx19_5
        try clear hx20_4
        try clear p1
        try clear p14
        try clear p143
        try clear p151
        try clear p19
        try clear p2
        try clear p6
        try clear q1
        try clear q14
        try clear q143
        try clear q151
        try clear q19
        obtain ⟨x7_3, x11_3, rfl, HA, HK3, HO_7, HB⟩ := hrel
        cases gk with
        | zero => exact absurd HA.out (by simp [stickfullaw14_row.l2])
        | succ k3 =>
         have H := HA.out
         clear HA
         simp only [stickfullaw14_row.l2] at H
         by_cases c22 : x11_3 < (l2.length : Int)
         ·rw [if_pos c22] at H
          have c22b0 : decide (x11_3 < (l2.length : Int)) = true := decide_eq_true c22
          clear c22
          by_cases c23 : 0 ≤ x11_3
          ·rw [if_pos c23] at H
           have c23b0 : decide (0 ≤ x11_3) = true := decide_eq_true c23
           clear c23
           by_cases c24 : 0 ≤ (rd l2 x11_3)
           ·rw [if_pos c24] at H
            have c24b0 : decide (0 ≤ (rd l2 x11_3)) = true := decide_eq_true c24
            clear c24
            by_cases c25 : (rd l2 x11_3) < (x7_3.length : Int)
            ·rw [if_pos c25] at H
             have c25b0 : decide ((rd l2 x11_3) < (x7_3.length : Int)) = true := decide_eq_true c25
             clear c25
             obtain ⟨y154, hy154⟩ : ∃ y_ : List (S44), y_ = (x7_3.set ((rd l2 x11_3) : Int).toNat (⟨(rd_T44 x7_3 (rd l2 x11_3)).f0, (rd_T44 x7_3 (rd l2 x11_3)).f1, (rd_T44 x7_3 (rd l2 x11_3)).f2, (rd_T44 x7_3 (rd l2 x11_3)).f3, (rd_T44 x7_3 (rd l2 x11_3)).f4, true⟩ : S44)) := ⟨_, rfl⟩
             replace H : (stickfullaw14_row.l2 k3 l2 y154 (wrap64 (x11_3 + 1))) = some r := by first | (rw [hy154]; with_reducible exact H) | (have H2_ := (Option.bind_some _ _).symm.trans H; rw [hy154]; with_reducible exact H2_) | (have H2_ := (Option.bind_some _ _).symm.trans H; with_reducible exact H2_) | with_reducible exact H | (rw [hy154]; exact H) | exact H
             have Ny154 := Aside0.mk hy154
             clear hy154
             have H' := Aside0.mk H
             clear H
             have p153 : 0 ≤ (x11_3 : Int) := of_decide_eq_true (by first | (with_reducible assumption) | assumption)
             have q153 : x11_3 < (l2.length : Int) := of_decide_eq_true (by first | (with_reducible assumption) | assumption)
             obtain ⟨ad153, e153, hx153_0⟩ := Kd.at_int HR2.out x11_3 p153 q153
             cases e153
             replace hx153_0 := (HB.out.cell (World.block_lt_of_cell? w _ hx153_0)).trans hx153_0
             replace p153 := eq_true p153
             replace q153 := eq_true q153
             have p26 : 0 ≤ ((rd l2 x11_3) : Int) := of_decide_eq_true (by first | (with_reducible assumption) | assumption)
             have q26 : ((rd l2 x11_3) : Int) < ((x7_3.length : Int) : Int) := of_decide_eq_true (by first | (with_reducible assumption) | assumption)
             obtain ⟨go26, co26, eo26, gb26, gl26, cl26, HG26⟩ := Kd.R_form HO_7.out (by omega)
             (first | cases eo26 | (injection eo26 with ea_ en_ ec_; (first | subst ea_ | (injection ea_ with ea_; subst ea_)); subst ec_; clear en_))
             have GB26 := Aside0.mk gb26
             have GG26 := Aside0.mk HG26
             clear gb26 gl26 HG26
             obtain ⟨ce26, hcl26, hM26, hcc26, hfr26⟩ := Kd.R_elem HO_7.out z44 ((rd l2 x11_3) : Int) p26 q26
             obtain rfl := k44_openM hM26
             have hx26_0 : wr.cell? ⟨go26, ((rd l2 x11_3) : Int).toNat * 6, none⟩ = some (.int .u8 ((rd_T44 x7_3 (rd l2 x11_3)).f0)) := hcc26 0 _ rfl
             have hx26_1 : wr.cell? ⟨go26, ((rd l2 x11_3) : Int).toNat * 6 + 1, none⟩ = some (.int .i64 ((rd_T44 x7_3 (rd l2 x11_3)).f1)) := hcc26 1 _ rfl
             have hx26_2 : wr.cell? ⟨go26, ((rd l2 x11_3) : Int).toNat * 6 + 2, none⟩ = some (.int .i64 ((rd_T44 x7_3 (rd l2 x11_3)).f2)) := hcc26 2 _ rfl
             have hx26_3 : wr.cell? ⟨go26, ((rd l2 x11_3) : Int).toNat * 6 + 3, none⟩ = some (.int .i64 ((rd_T44 x7_3 (rd l2 x11_3)).f3)) := hcc26 3 _ rfl
             have hx26_4 : wr.cell? ⟨go26, ((rd l2 x11_3) : Int).toNat * 6 + 4, none⟩ = some (.bool ((rd_T44 x7_3 (rd l2 x11_3)).f4)) := hcc26 4 _ rfl
             have hx26_5 : wr.cell? ⟨go26, ((rd l2 x11_3) : Int).toNat * 6 + 5, none⟩ = some (.bool ((rd_T44 x7_3 (rd l2 x11_3)).f5)) := hcc26 5 _ rfl
             have hf26_0 : wr.frozen? ⟨go26, ((rd l2 x11_3) : Int).toNat * 6, none⟩ = false := hfr26 0
             have hf26_1 : wr.frozen? ⟨go26, ((rd l2 x11_3) : Int).toNat * 6 + 1, none⟩ = false := hfr26 1
             have hf26_2 : wr.frozen? ⟨go26, ((rd l2 x11_3) : Int).toNat * 6 + 2, none⟩ = false := hfr26 2
             have hf26_3 : wr.frozen? ⟨go26, ((rd l2 x11_3) : Int).toNat * 6 + 3, none⟩ = false := hfr26 3
             have hf26_4 : wr.frozen? ⟨go26, ((rd l2 x11_3) : Int).toNat * 6 + 4, none⟩ = false := hfr26 4
             have hf26_5 : wr.frozen? ⟨go26, ((rd l2 x11_3) : Int).toNat * 6 + 5, none⟩ = false := hfr26 5
             clear hcl26 hcc26 hfr26 hM26
             replace p26 := eq_true p26
             replace q26 := eq_true q26
             have HX27 := Aside0.mk (show Kd.R k44 44 wr w.heap.size (fun _ => True) (.slice (some ⟨go26, 0, none⟩) x7_3.length co26) x7_3 from (rx HO_7))
             obtain ⟨ce27, hcl27, hM27, hcc27, hfr27⟩ := Kd.R_elem HX27.out z44 ((rd l2 x11_3) : Int) (of_decide_eq_true (by first | (with_reducible assumption) | assumption)) (by have h_ : ((rd l2 x11_3) : Int) < ((x7_3.length : Int) : Int) := of_decide_eq_true (by first | (with_reducible assumption) | assumption); first | exact h_ | (have e_ := (Kd.R_reads' HO_7.out).1; omega) | simpa using h_)
             obtain rfl := k44_openM hM27
             have HP27 := Kd.R_seg HX27.out ((rd l2 x11_3) : Int) (of_decide_eq_true (by first | (with_reducible assumption) | assumption)) (by have h_ : ((rd l2 x11_3) : Int) < ((x7_3.length : Int) : Int) := of_decide_eq_true (by first | (with_reducible assumption) | assumption); first | exact h_ | (have e_ := (Kd.R_reads' HO_7.out).1; omega) | simpa using h_) (seg := [.bool true]) (j := 5) hcl27 hcc27 (show 6 ≤ 6 from by decide) (x' := (⟨(rd_T44 x7_3 (rd l2 x11_3)).f0, (rd_T44 x7_3 (rd l2 x11_3)).f1, (rd_T44 x7_3 (rd l2 x11_3)).f2, (rd_T44 x7_3 (rd l2 x11_3)).f3, (rd_T44 x7_3 (rd l2 x11_3)).f4, true⟩ : S44)) (k44_mkM _ _ _ (⟨(rd_T44 x7_3 (rd l2 x11_3)).f0, (rd_T44 x7_3 (rd l2 x11_3)).f1, (rd_T44 x7_3 (rd l2 x11_3)).f2, (rd_T44 x7_3 (rd l2 x11_3)).f3, (rd_T44 x7_3 (rd l2 x11_3)).f4, true⟩ : S44) ) (fun _ hk => hk)
             have hx27_5 := hcc27 5 _ rfl
             (try simp only [show (k44).sz = 6 from rfl, Nat.mul_one, Nat.add_zero] at hx27_5)
             have hf27_5 := hfr27 5
             (try simp only [show (k44).sz = 6 from rfl, Nat.mul_one, Nat.add_zero] at hf27_5)
             clear hcl27 hcc27 hfr27 hM27
             go_wp2_with (first | ((with_reducible refine gate_store (t := 4) (p := 56) rfl ?_); refine store_event (t := 4) (p := 56) (v := ?vo_w28) (w1 := (wr.setCell ⟨go26, ((rd l2 x11_3) : Int).toNat * 6 + 5, none⟩ (.bool true))) ?hg ?ho ?hn ?hr ?_; (case ho => rfl); (case hg => rfl); (case hn => rfl); (case hr => first | (go_simp; done) | (go_simp; rfl)); intro w28 hw; have hg : wr.grownBy w28 (some go26) := (by rw [hw]; exact HP27.2); have hp_ : Kd.R k44 44 w28 w.heap.size (fun _ => True) (.slice (some ⟨go26, 0, none⟩) x7_3.length co26) y154 := (by rw [hw, Ny154.out]; exact HP27.1); clear HP27; replace HO_7 := Aside0.mk (hp_); replace HB := Aside0.mk ((by rw [hw]; exact below_set (HB.out) GB26.out : Below w.heap.size w w28)); clear hg hw hp_))
             go_roundg k3
             case measure => have := HK1.out; have := HK2.out; have := HK3.out; omega
             case rel => exact ⟨(y154), (wrap64 (x11_3 + 1)), (by first | rfl | (simp; done) | (simp [*]; done)), H', ⟨by have := HK1.out; have := HK2.out; have := HK3.out; omega⟩, ⟨by (with_reducible repeat (first | apply Kd.R_alloc | apply Kd.R_drewN | apply Kd.R_drew)); exact HO_7.out⟩, ⟨by repeat (first | (with_reducible first | exact HB.out | apply below_alloc | apply pw_below_drewN | apply below_drew1) | exact HB.out)⟩⟩
            ·rw [if_neg c25] at H
             exact absurd H (by simp)
           ·rw [if_neg c24] at H
            exact absurd H (by simp)
          ·rw [if_neg c23] at H
           exact absurd H (by simp)
         ·rw [if_neg c22] at H
          have c22b0 : decide (x11_3 < (l2.length : Int)) = false := decide_eq_false c22
          clear c22
          obtain rfl := Option.some.inj H
          go_wp2
          go_ret
          exact ⟨_, by first | rfl | (simp [errW_none, errW_some] <;> rfl) | (simp [*, errW_none, errW_some] <;> rfl), by (with_reducible repeat (first | apply Kd.R_alloc | apply Kd.R_drewN | apply Kd.R_drew)); exact HO_7.out, by repeat (first | (with_reducible first | exact HB.out | apply below_alloc | apply pw_below_drewN | apply below_drew1) | exact HB.out)⟩

/-! ### fill_Lines: function 9 -/
def fill_Lines.l0 : Nat → List (S44) → List (S35) → Int → Bool → Int → Int → Int → Int → Option ((List (S35)) × Int)
 | 0, _, _, _, _, _, _, _, _ => none
 | k + 1, x0, x8, x10, x11, x157000, x157001, x158000, x158001 => if x11 = true then ((fill_One.f k x0 x10 x158000 x158001).bind fun bt158 => (if bt158.2.2.2 = 0 then (if x8.length < 5864062014805 then ((some (x8 ++ [(⟨bt158.1, bt158.2.1, bt158.2.2.1⟩ : S35)] : List (S35))).bind fun y163 => (if bt158.2.2.1 = true then (fill_Lines.l0 k x0 y163 bt158.2.1 true x157000 x157001 x157000 x157001) else (fill_Lines.l0 k x0 y163 bt158.2.1 (decide (bt158.2.1 < (x0.length : Int))) x157000 x157001 x157000 x157001))) else (none)) else (some (([] : List (S35)), bt158.2.2.2)))) else (some (x8, 0))
def fill_Lines.f (k : Nat) (l0 : List (S44)) (a1_0 a1_1 a2_0 a2_1 : Int) : Option ((List (S35)) × Int) := if a2_0 < 0 then (some (([] : List (S35)), 2)) else (fill_Lines.l0 k l0 ([] : List (S35)) 0 true a2_0 a2_1 a1_0 a1_1)
theorem fill_Lines.mono_l : ∀ k, (∀ y0 y1 y2 y3 y4 y5 y6 y7, LeO (fill_Lines.l0 k y0 y1 y2 y3 y4 y5 y6 y7) (fill_Lines.l0 (k + 1) y0 y1 y2 y3 y4 y5 y6 y7))
 | 0 => fun _ _ _ _ _ _ _ _ r h => by simp [fill_Lines.l0] at h
 | k + 1 => by
  have ih0 := fill_Lines.mono_l k
  ·intro y0 y1 y2 y3 y4 y5 y6 y7
   unfold fill_Lines.l0
   repeat' first
   | (with_reducible exact ih0 _ _ _ _ _ _ _ _)
   | (with_reducible exact fill_One.mono _ _ _ _ _)
   | (with_reducible exact LeO.refl _)
   | (with_reducible exact LeO.none _)
   | (with_reducible refine LeO.ite ?_ ?_)
   | (with_reducible refine LeO.bind ?_ (fun _ => ?_))
   | exact ih0 _ _ _ _ _ _ _ _
   | exact fill_One.mono _ _ _ _ _
   | exact LeO.none _
   | refine LeO.ite ?_ ?_
   | refine LeO.bind ?_ (fun _ => ?_)
theorem fill_Lines.mono : ∀ a0 a1 a2 a3 a4 k, LeO (fill_Lines.f k a0 a1 a2 a3 a4) (fill_Lines.f (k + 1) a0 a1 a2 a3 a4) := by
 intro a0 a1 a2 a3 a4 k
 have ih0 := fill_Lines.mono_l k
 unfold fill_Lines.f
 repeat' first
   | (with_reducible exact ih0 _ _ _ _ _ _ _ _)
   | (with_reducible exact fill_One.mono _ _ _ _ _)
   | (with_reducible exact LeO.refl _)
   | (with_reducible exact LeO.none _)
   | (with_reducible refine LeO.ite ?_ ?_)
   | (with_reducible refine LeO.bind ?_ (fun _ => ?_))
   | exact ih0 _ _ _ _ _ _ _ _
   | exact fill_One.mono _ _ _ _ _
   | exact LeO.none _
   | refine LeO.ite ?_ ?_
   | refine LeO.bind ?_ (fun _ => ?_)
set_option maxHeartbeats 8000000 in
set_option maxRecDepth 100000 in
theorem fill_Lines.calls (k : Nat) (A0 : Option Addr) (c0 : Nat) (l0 : List (S44)) (a1_0 a1_1 a2_0 a2_1 : Int) (r1 : List (S35)) (r2 : Int) (w : World) (hr0 : Kd.C k44 w A0 l0.length l0) (hc0 : l0.length ≤ c0) (h : fill_Lines.f k l0 a1_0 a1_1 a2_0 a2_1 = some (r1, r2)) :
  Calls Try.prog 9 #[.slice A0 l0.length c0, .agg #[.int .i64 a1_0, .int .i64 a1_1], .agg #[.int .i64 a2_0, .int .i64 a2_1]] w fun e w' => ∃ v0_ : Value, e = .returned (.tuple #[v0_, .int .i64 r2]) ∧ Kd.R k35 35 w' w.heap.size (fun _ => True) v0_ r1 ∧ Below w.heap.size w w' := by
 have hu24 := Try.underlying24
 have hu35 := Try.underlying35
 have HR0 := Aside0.mk hr0
 have HC0 := Aside0.mk hc0
 clear hr0 hc0
 have HB := Aside0.mk (Below.refl w.heap.size w)
 have H : (if a2_0 < 0 then (some (([] : List (S35)), 2)) else (fill_Lines.l0 k l0 ([] : List (S35)) 0 true a2_0 a2_1 a1_0 a1_1)) = some (r1, r2) := h
 clear h
 by_cases c4 : a2_0 < 0
 ·rw [if_pos c4] at H
  have c4b0 : decide (a2_0 < 0) = true := decide_eq_true c4
  clear c4
  simp only [Option.some.injEq, Prod.mk.injEq] at H
  obtain ⟨rfl, rfl⟩ := H
  go_enter Try.func9, Try.ntmps9
  go_wp2_with (first | ((with_reducible refine gate_dst (N := 4) rfl ?_); (try (refine gate_guard (by rfl) ?_; dsimp only)); refine box_event ?hg (N := 4) ?hd (cs := #[.int .i64 a1_0, .int .i64 a1_1]) (t := 24) ?hr ?_; (case hd => rfl); (case hg => rfl); (case hr => first | (go_simp; done) | (go_simp; rfl)); intro gb155 hg w5 hbox hb; have BK155 := Aside0.mk (hbox); have GW155 := bge HB hg; have GE155 := bge HB hg; replace HB := bh HB hb; clear hb hbox hg) | ((with_reducible refine gate_dst (N := 5) rfl ?_); (try (refine gate_guard (by rfl) ?_; dsimp only)); refine box_event ?hg (N := 5) ?hd (cs := #[.int .i64 a2_0, .int .i64 a2_1]) (t := 24) ?hr ?_; (case hd => rfl); (case hg => rfl); (case hr => first | (go_simp; done) | (go_simp; rfl)); intro gb156 hg w6 hbox hb; have BK156 := Aside0.mk (hbox); have GW156 := bge HB hg; have GE156 := bge HB hg; replace HB := bh HB hb; have NB155_156 := nbl BK155 hg; have NB156_155 := nbg BK155 hg; replace BK155 := bb BK155 hb; clear hb hbox hg; have hnb7 := NB156_155.out; have hnc7 := NB155_156.out; obtain ⟨hcz8_0, hcz8_1⟩ := cz2 BK156; obtain ⟨hfz8_0, hfz8_1⟩ := fz2 BK156))
  repeat (go_quiet (first | ((with_reducible refine gate_dst (N := 4) rfl ?_); (try (refine gate_guard (by rfl) ?_; dsimp only)); refine box_event ?hg (N := 4) ?hd (cs := #[.int .i64 a1_0, .int .i64 a1_1]) (t := 24) ?hr ?_; (case hd => rfl); (case hg => rfl); (case hr => first | (go_simp; done) | (go_simp; rfl)); intro gb155 hg w5 hbox hb; have BK155 := Aside0.mk (hbox); have GW155 := bge HB hg; have GE155 := bge HB hg; replace HB := bh HB hb; clear hb hbox hg) | ((with_reducible refine gate_dst (N := 5) rfl ?_); (try (refine gate_guard (by rfl) ?_; dsimp only)); refine box_event ?hg (N := 5) ?hd (cs := #[.int .i64 a2_0, .int .i64 a2_1]) (t := 24) ?hr ?_; (case hd => rfl); (case hg => rfl); (case hr => first | (go_simp; done) | (go_simp; rfl)); intro gb156 hg w6 hbox hb; have BK156 := Aside0.mk (hbox); have GW156 := bge HB hg; have GE156 := bge HB hg; replace HB := bh HB hb; have NB155_156 := nbl BK155 hg; have NB156_155 := nbg BK155 hg; replace BK155 := bb BK155 hb; clear hb hbox hg; have hnb7 := NB156_155.out; have hnc7 := NB155_156.out; obtain ⟨hcz8_0, hcz8_1⟩ := cz2 BK156; obtain ⟨hfz8_0, hfz8_1⟩ := fz2 BK156)); try go_wp2_with (first | ((with_reducible refine gate_dst (N := 4) rfl ?_); (try (refine gate_guard (by rfl) ?_; dsimp only)); refine box_event ?hg (N := 4) ?hd (cs := #[.int .i64 a1_0, .int .i64 a1_1]) (t := 24) ?hr ?_; (case hd => rfl); (case hg => rfl); (case hr => first | (go_simp; done) | (go_simp; rfl)); intro gb155 hg w5 hbox hb; have BK155 := Aside0.mk (hbox); have GW155 := bge HB hg; have GE155 := bge HB hg; replace HB := bh HB hb; clear hb hbox hg) | ((with_reducible refine gate_dst (N := 5) rfl ?_); (try (refine gate_guard (by rfl) ?_; dsimp only)); refine box_event ?hg (N := 5) ?hd (cs := #[.int .i64 a2_0, .int .i64 a2_1]) (t := 24) ?hr ?_; (case hd => rfl); (case hg => rfl); (case hr => first | (go_simp; done) | (go_simp; rfl)); intro gb156 hg w6 hbox hb; have BK156 := Aside0.mk (hbox); have GW156 := bge HB hg; have GE156 := bge HB hg; replace HB := bh HB hb; have NB155_156 := nbl BK155 hg; have NB156_155 := nbg BK155 hg; replace BK155 := bb BK155 hb; clear hb hbox hg; have hnb7 := NB156_155.out; have hnc7 := NB155_156.out; obtain ⟨hcz8_0, hcz8_1⟩ := cz2 BK156; obtain ⟨hfz8_0, hfz8_1⟩ := fz2 BK156)))
  go_ret2
  exact ⟨_, by first | rfl | (simp [errW_none, errW_some] <;> rfl) | (simp [*, errW_none, errW_some] <;> rfl), by first | exact Kd.R_nil _ _ _ _ _ | exact Kd.N_nil _ _ _ _ _ | exact Kd.V_nil _ _ _ _ _ | exact Kd.Q_nil _ _ _ _ _ | exact Kd.S_nil _ _ _ _ _, by repeat (first | (with_reducible first | exact HB.out | apply below_alloc | apply pw_below_drewN | apply below_drew1 | refine below_set ?_ GE155.out | refine below_set ?_ GE156.out) | exact HB.out)⟩
 ·rw [if_neg c4] at H
  have c4b0 : decide (a2_0 < 0) = false := decide_eq_false c4
  clear c4
  have H' := Aside0.mk H
  clear H
  go_enter Try.func9, Try.ntmps9
  go_wp2_with (first | ((with_reducible refine gate_dst (N := 4) rfl ?_); (try (refine gate_guard (by rfl) ?_; dsimp only)); refine box_event ?hg (N := 4) ?hd (cs := #[.int .i64 a1_0, .int .i64 a1_1]) (t := 24) ?hr ?_; (case hd => rfl); (case hg => rfl); (case hr => first | (go_simp; done) | (go_simp; rfl)); intro gb155 hg w9 hbox hb; have BK155 := Aside0.mk (hbox); have GW155 := bge HB hg; have GE155 := bge HB hg; replace HB := bh HB hb; clear hb hbox hg) | ((with_reducible refine gate_dst (N := 5) rfl ?_); (try (refine gate_guard (by rfl) ?_; dsimp only)); refine box_event ?hg (N := 5) ?hd (cs := #[.int .i64 a2_0, .int .i64 a2_1]) (t := 24) ?hr ?_; (case hd => rfl); (case hg => rfl); (case hr => first | (go_simp; done) | (go_simp; rfl)); intro gb156 hg w10 hbox hb; have BK156 := Aside0.mk (hbox); have GW156 := bge HB hg; have GE156 := bge HB hg; replace HB := bh HB hb; have NB155_156 := nbl BK155 hg; have NB156_155 := nbg BK155 hg; replace BK155 := bb BK155 hb; clear hb hbox hg; have hnb11 := NB156_155.out; have hnc11 := NB155_156.out; obtain ⟨hcz12_0, hcz12_1⟩ := cz2 BK156; obtain ⟨hfz12_0, hfz12_1⟩ := fz2 BK156; obtain ⟨hcz13_0, hcz13_1⟩ := cz2 BK155; obtain ⟨hfz13_0, hfz13_1⟩ := fz2 BK155) | ((with_reducible refine gate_dst (N := 9) rfl ?_); (try (refine gate_guard (by rfl) ?_; dsimp only)); refine box_event ?hg (N := 9) ?hd (cs := #[.int .i64 0, .int .i64 0]) (t := 24) ?hr ?_; (case hd => rfl); (case hg => rfl); (case hr => first | (go_simp; done) | (go_simp; rfl)); intro gb157 hg w14 hbox hb; have BK157 := Aside0.mk (hbox); have GW157 := bge HB hg; have GE157 := bge HB hg; replace HB := bh HB hb; have NB155_157 := nbl BK155 hg; have NB157_155 := nbg BK155 hg; replace BK155 := bb BK155 hb; have NB156_157 := nbl BK156 hg; have NB157_156 := nbg BK156 hg; replace BK156 := bb BK156 hb; clear hb hbox hg; have hnb15 := NB157_155.out; have hnc15 := NB155_157.out; have hnb16 := NB157_156.out; have hnc16 := NB156_157.out; obtain ⟨hcz17_0, hcz17_1⟩ := cz2 BK157; obtain ⟨hfz17_0, hfz17_1⟩ := fz2 BK157))
  repeat (go_quiet (first | ((with_reducible refine gate_dst (N := 4) rfl ?_); (try (refine gate_guard (by rfl) ?_; dsimp only)); refine box_event ?hg (N := 4) ?hd (cs := #[.int .i64 a1_0, .int .i64 a1_1]) (t := 24) ?hr ?_; (case hd => rfl); (case hg => rfl); (case hr => first | (go_simp; done) | (go_simp; rfl)); intro gb155 hg w9 hbox hb; have BK155 := Aside0.mk (hbox); have GW155 := bge HB hg; have GE155 := bge HB hg; replace HB := bh HB hb; clear hb hbox hg) | ((with_reducible refine gate_dst (N := 5) rfl ?_); (try (refine gate_guard (by rfl) ?_; dsimp only)); refine box_event ?hg (N := 5) ?hd (cs := #[.int .i64 a2_0, .int .i64 a2_1]) (t := 24) ?hr ?_; (case hd => rfl); (case hg => rfl); (case hr => first | (go_simp; done) | (go_simp; rfl)); intro gb156 hg w10 hbox hb; have BK156 := Aside0.mk (hbox); have GW156 := bge HB hg; have GE156 := bge HB hg; replace HB := bh HB hb; have NB155_156 := nbl BK155 hg; have NB156_155 := nbg BK155 hg; replace BK155 := bb BK155 hb; clear hb hbox hg; have hnb11 := NB156_155.out; have hnc11 := NB155_156.out; obtain ⟨hcz12_0, hcz12_1⟩ := cz2 BK156; obtain ⟨hfz12_0, hfz12_1⟩ := fz2 BK156; obtain ⟨hcz13_0, hcz13_1⟩ := cz2 BK155; obtain ⟨hfz13_0, hfz13_1⟩ := fz2 BK155) | ((with_reducible refine gate_dst (N := 9) rfl ?_); (try (refine gate_guard (by rfl) ?_; dsimp only)); refine box_event ?hg (N := 9) ?hd (cs := #[.int .i64 0, .int .i64 0]) (t := 24) ?hr ?_; (case hd => rfl); (case hg => rfl); (case hr => first | (go_simp; done) | (go_simp; rfl)); intro gb157 hg w14 hbox hb; have BK157 := Aside0.mk (hbox); have GW157 := bge HB hg; have GE157 := bge HB hg; replace HB := bh HB hb; have NB155_157 := nbl BK155 hg; have NB157_155 := nbg BK155 hg; replace BK155 := bb BK155 hb; have NB156_157 := nbl BK156 hg; have NB157_156 := nbg BK156 hg; replace BK156 := bb BK156 hb; clear hb hbox hg; have hnb15 := NB157_155.out; have hnc15 := NB155_157.out; have hnb16 := NB157_156.out; have hnc16 := NB156_157.out; obtain ⟨hcz17_0, hcz17_1⟩ := cz2 BK157; obtain ⟨hfz17_0, hfz17_1⟩ := fz2 BK157)); try go_wp2_with (first | ((with_reducible refine gate_dst (N := 4) rfl ?_); (try (refine gate_guard (by rfl) ?_; dsimp only)); refine box_event ?hg (N := 4) ?hd (cs := #[.int .i64 a1_0, .int .i64 a1_1]) (t := 24) ?hr ?_; (case hd => rfl); (case hg => rfl); (case hr => first | (go_simp; done) | (go_simp; rfl)); intro gb155 hg w9 hbox hb; have BK155 := Aside0.mk (hbox); have GW155 := bge HB hg; have GE155 := bge HB hg; replace HB := bh HB hb; clear hb hbox hg) | ((with_reducible refine gate_dst (N := 5) rfl ?_); (try (refine gate_guard (by rfl) ?_; dsimp only)); refine box_event ?hg (N := 5) ?hd (cs := #[.int .i64 a2_0, .int .i64 a2_1]) (t := 24) ?hr ?_; (case hd => rfl); (case hg => rfl); (case hr => first | (go_simp; done) | (go_simp; rfl)); intro gb156 hg w10 hbox hb; have BK156 := Aside0.mk (hbox); have GW156 := bge HB hg; have GE156 := bge HB hg; replace HB := bh HB hb; have NB155_156 := nbl BK155 hg; have NB156_155 := nbg BK155 hg; replace BK155 := bb BK155 hb; clear hb hbox hg; have hnb11 := NB156_155.out; have hnc11 := NB155_156.out; obtain ⟨hcz12_0, hcz12_1⟩ := cz2 BK156; obtain ⟨hfz12_0, hfz12_1⟩ := fz2 BK156; obtain ⟨hcz13_0, hcz13_1⟩ := cz2 BK155; obtain ⟨hfz13_0, hfz13_1⟩ := fz2 BK155) | ((with_reducible refine gate_dst (N := 9) rfl ?_); (try (refine gate_guard (by rfl) ?_; dsimp only)); refine box_event ?hg (N := 9) ?hd (cs := #[.int .i64 0, .int .i64 0]) (t := 24) ?hr ?_; (case hd => rfl); (case hg => rfl); (case hr => first | (go_simp; done) | (go_simp; rfl)); intro gb157 hg w14 hbox hb; have BK157 := Aside0.mk (hbox); have GW157 := bge HB hg; have GE157 := bge HB hg; replace HB := bh HB hb; have NB155_157 := nbl BK155 hg; have NB157_155 := nbg BK155 hg; replace BK155 := bb BK155 hb; have NB156_157 := nbl BK156 hg; have NB157_156 := nbg BK156 hg; replace BK156 := bb BK156 hb; clear hb hbox hg; have hnb15 := NB157_155.out; have hnc15 := NB155_157.out; have hnb16 := NB157_156.out; have hnc16 := NB156_157.out; obtain ⟨hcz17_0, hcz17_1⟩ := cz2 BK157; obtain ⟨hfz17_0, hfz17_1⟩ := fz2 BK157)))
  go_loopg [8, 10, 11] k (fun kq v8 v10 v11 w' => ∃ (x8_1 : List (S35)) (x10_1 : Int) (x11_1 : Bool) (x158000_1 x158001_1 : Int), v10 = .int .i64 x10_1 ∧ v11 = .bool x11_1 ∧ Aside0 (fill_Lines.l0 kq l0 x8_1 x10_1 x11_1 a2_0 a2_1 x158000_1 x158001_1 = some (r1, r2)) ∧ Aside0 (kq ≤ k) ∧ Aside0 (Kd.R k35 35 w' w.heap.size (fun _ => True) v8 x8_1) ∧ Aside0 (w'.heap[gb155]? = some (.cells #[.int .i64 a1_0, .int .i64 a1_1] 24 (0, 0))) ∧ Aside0 (w'.heap[gb156]? = some (.cells #[.int .i64 a2_0, .int .i64 a2_1] 24 (0, 0))) ∧ Aside0 (w'.heap[gb157]? = some (.cells #[.int .i64 x158000_1, .int .i64 x158001_1] 24 (0, 0))) ∧ Aside0 (Below w.heap.size w w'))
  case atStart => exact ⟨(([] : List (S35))), (0), (true), (a1_0), (a1_1), (by first | rfl | (simp; done) | (simp [*]; done)), (by first | rfl | (simp; done) | (simp [*]; done)), H', ⟨Nat.le_refl _⟩, ⟨by first | exact Kd.R_nil _ _ _ _ _ | exact Kd.N_nil _ _ _ _ _ | exact Kd.V_nil _ _ _ _ _ | exact Kd.Q_nil _ _ _ _ _ | exact Kd.S_nil _ _ _ _ _⟩, ⟨by (with_reducible repeat (first | refine blk_drewN ?_ _ | refine blk_drew ?_ | refine blk_alloc ?_ _)); refine blk_far ?_ NB155_157.out _; (with_reducible repeat (first | refine blk_drewN ?_ _ | refine blk_drew ?_ | refine blk_alloc ?_ _)); refine blk_far ?_ NB155_157.out _; (with_reducible repeat (first | refine blk_drewN ?_ _ | refine blk_drew ?_ | refine blk_alloc ?_ _)); exact BK155.out⟩, ⟨by (with_reducible repeat (first | refine blk_drewN ?_ _ | refine blk_drew ?_ | refine blk_alloc ?_ _)); refine blk_far ?_ NB156_157.out _; (with_reducible repeat (first | refine blk_drewN ?_ _ | refine blk_drew ?_ | refine blk_alloc ?_ _)); refine blk_far ?_ NB156_157.out _; (with_reducible repeat (first | refine blk_drewN ?_ _ | refine blk_drew ?_ | refine blk_alloc ?_ _)); exact BK156.out⟩, ⟨by (with_reducible repeat (first | refine blk_drewN ?_ _ | refine blk_drew ?_ | refine blk_alloc ?_ _)); refine blk_put (cs := #[.int .i64 a1_0, .int .i64 0]) ?_ 1 _ rfl; (with_reducible repeat (first | refine blk_drewN ?_ _ | refine blk_drew ?_ | refine blk_alloc ?_ _)); refine blk_put (cs := #[.int .i64 0, .int .i64 0]) ?_ 0 _ rfl; (with_reducible repeat (first | refine blk_drewN ?_ _ | refine blk_drew ?_ | refine blk_alloc ?_ _)); exact BK157.out⟩, ⟨by repeat (first | (with_reducible first | exact HB.out | apply below_alloc | apply pw_below_drewN | apply below_drew1 | refine below_set ?_ GE155.out | refine below_set ?_ GE156.out | refine below_set ?_ GE157.out) | exact HB.out)⟩⟩
  case round =>
   clear H'
   try clear c1
   try clear p2
   try clear c4
   try clear c4b0
   try clear c7
   try clear c9
   try clear c11
   try clear c15
   try clear c16
   try clear hcz12_0
   try clear hcz12_1
   try clear hcz13_0
   try clear hcz13_1
   try clear hcz17_0
   try clear hcz17_1
   try clear hcz8_0
   try clear hcz8_1
   try clear hfz12_0
   try clear hfz12_1
   try clear hfz13_0
   try clear hfz13_1
   try clear hfz17_0
   try clear hfz17_1
   try clear hfz8_0
   try clear hfz8_1
   obtain ⟨x8_1, x10_1, x11_1, x158000_1, x158001_1, rfl, rfl, HA, HK1, HO_8, BK155, BK156, BK157, HB⟩ := hrel
   cases gk with
   | zero => exact absurd HA.out (by simp [fill_Lines.l0])
   | succ k1 =>
    have H := HA.out
    clear HA
    simp only [fill_Lines.l0] at H
    by_cases c18 : x11_1 = true
    ·subst c18
     have H1 : ((fill_One.f k1 l0 x10_1 x158000_1 x158001_1).bind fun bt158 => (if bt158.2.2.2 = 0 then (if x8_1.length < 5864062014805 then ((some (x8_1 ++ [(⟨bt158.1, bt158.2.1, bt158.2.2.1⟩ : S35)] : List (S35))).bind fun y163 => (if bt158.2.2.1 = true then (fill_Lines.l0 k1 l0 y163 bt158.2.1 true a2_0 a2_1 a2_0 a2_1) else (fill_Lines.l0 k1 l0 y163 bt158.2.1 (decide (bt158.2.1 < (l0.length : Int))) a2_0 a2_1 a2_0 a2_1))) else (none)) else (some (([] : List (S35)), bt158.2.2.2)))) = some (r1, r2) := by rw [if_pos rfl] at H; exact H
     clear H
     have H := H1
     clear H1
     replace H := Option.bind_eq_some_iff.mp H
     obtain ⟨⟨t158, t159, t160, t161⟩, A190, H⟩ := H
     replace H : (if t161 = 0 then (if x8_1.length < 5864062014805 then ((some (x8_1 ++ [(⟨t158, t159, t160⟩ : S35)] : List (S35))).bind fun y163 => (if t160 = true then (fill_Lines.l0 k1 l0 y163 t159 true a2_0 a2_1 a2_0 a2_1) else (fill_Lines.l0 k1 l0 y163 t159 (decide (t159 < (l0.length : Int))) a2_0 a2_1 a2_0 a2_1))) else (none)) else (some (([] : List (S35)), t161))) = some (r1, r2) := H
     have A19 := Aside0.mk A190
     clear A190
     by_cases c20 : t161 = 0
     ·rw [if_pos c20] at H
      have c20b0 : (t161 == 0) = true := beq_iff_eq.mpr c20
      have c20b1 : (t161 != 0) = false := bne_eq_false_iff_eq.mpr c20
      clear c20
      by_cases c21 : x8_1.length < 5864062014805
      ·rw [if_pos c21] at H
       have LMc21 := Aside0.mk c21
       clear c21
       obtain ⟨y163, hy163⟩ : ∃ y_ : List (S35), y_ = (x8_1 ++ [(⟨t158, t159, t160⟩ : S35)]) := ⟨_, rfl⟩
       replace H : (if t160 = true then (fill_Lines.l0 k1 l0 y163 t159 true a2_0 a2_1 a2_0 a2_1) else (fill_Lines.l0 k1 l0 y163 t159 (decide (t159 < (l0.length : Int))) a2_0 a2_1 a2_0 a2_1)) = some (r1, r2) := by first | (rw [hy163]; with_reducible exact H) | (have H2_ := (Option.bind_some _ _).symm.trans H; rw [hy163]; with_reducible exact H2_) | (have H2_ := (Option.bind_some _ _).symm.trans H; with_reducible exact H2_) | with_reducible exact H | (rw [hy163]; exact H) | exact H
       have Ny163 := Aside0.mk hy163
       clear hy163
       by_cases c22 : t160 = true
       ·subst c22
        have H1 : (fill_Lines.l0 k1 l0 y163 t159 true a2_0 a2_1 a2_0 a2_1) = some (r1, r2) := by rw [if_pos rfl] at H; exact H
        clear H
        have H := H1
        clear H1
        have H' := Aside0.mk H
        clear H
        have hnb23 := NB157_155.out
        have hnc23 := NB155_157.out
        have hnb24 := NB157_156.out
        have hnc24 := NB156_157.out
        obtain ⟨hcz25_0, hcz25_1⟩ := cz2 BK157
        obtain ⟨hfz25_0, hfz25_1⟩ := fz2 BK157
        go_wp2_with (first | (go_at_call 16; (with_reducible refine (fill_One.calls k1 _ _ l0 x10_1 x158000_1 x158001_1 t158 t159 true t161 _ ?side1 ?side2 A19.out).mono ?_); (case side1 => repeat (first | exact (Kd.C_below HR0.out HB.out) | (with_reducible refine Kd.C_alloc ?_ _) | (with_reducible refine Kd.C_drewN ?_ _) | (with_reducible refine Kd.C_drew ?_))); (case side2 => exact HC0.out); rintro e w26 ⟨rfl, hb⟩; replace HO_8 := Aside0.mk (Kd.R_below (rx HO_8) hb); replace BK155 := bb BK155 hb; replace BK156 := bb BK156 hb; replace BK157 := bb BK157 hb; replace HB := bh HB hb; (try clear hb); (try clear hb2); (try clear hk); (try clear hi)) | ((with_reducible refine gate_dst (N := 12) rfl ?_); (try (refine gate_guard (by rfl) ?_; dsimp only)); refine box_event ?hg (N := 12) ?hd (cs := #[.int .i64 0, .int .i64 0, .bool false]) (t := 35) ?hr ?_; (case hd => rfl); (case hg => rfl); (case hr => first | (go_simp; done) | (go_simp; rfl)); intro gb162 hg w27 hbox hb; replace HO_8 := Aside0.mk (Kd.R_below (Kd.R_elderB (rx HO_8) gb162 (Nat.le_of_eq hg.symm)) hb); have BK162 := Aside0.mk (hbox); have GW162 := bge HB hg; have GE162 := bge HB hg; replace HB := bh HB hb; have NB155_162 := nbl BK155 hg; have NB162_155 := nbg BK155 hg; replace BK155 := bb BK155 hb; have NB156_162 := nbl BK156 hg; have NB162_156 := nbg BK156 hg; replace BK156 := bb BK156 hb; have NB157_162 := nbl BK157 hg; have NB162_157 := nbg BK157 hg; replace BK157 := bb BK157 hb; clear hb hbox hg; have hnb28 := NB162_155.out; have hnc28 := NB155_162.out; have hnb29 := NB162_156.out; have hnc29 := NB156_162.out; have hnb30 := NB162_157.out; have hnc30 := NB157_162.out; obtain ⟨hcz31_0, hcz31_1, hcz31_2⟩ := cz3 BK162; obtain ⟨hfz31_0, hfz31_1, hfz31_2⟩ := fz3 BK162) | ((with_reducible refine gate_builtin (b := .append) (xs := #[.tmp 30, .tmp 32]) rfl ?_); (try (refine gate_guard (by rfl) ?_; dsimp only)); at_builtin; refine Kd.R_append k35 (w0 := w) w.heap.size rfl (.tmp 30) (.tmp 32) 26 35 (.agg #[(.int .i64 0), (.int .i64 0), (.bool false)]) 24 rfl Try.underlying26 info35 rfl (by decide) (by omega) u8 x8_1 (⟨t158, t159, true⟩ : S35) [.int .i64 t158, .int .i64 t159, .bool true] (fun k_ => k_ ≠ gb162) (fun _ => False) rfl (by first | (go_simp; done) | (go_simp; rfl)) ?aP (fun _ hk => hk.elim) ?aF ?aO ?aB ?aS ?aL ?_; (case aP => exact k35_mkM _ _ _ (⟨t158, t159, true⟩ : S35)); (case aB => exact (bw HB)); (case aF => exact (fun k_ hk => Kd.freshB (o := .cells #[.int .i64 t158, .int .i64 t159, .bool true] 35 (0, 0)) (bp BK162) k_ hk)); (case aO => exact (by (with_reducible repeat (first | apply Kd.R_alloc | apply Kd.R_drewN | apply Kd.R_drew)); exact Kd.R_mono (Kd.R_far (p := ⟨gb162, 2, none⟩) (Kd.R_far (p := ⟨gb162, 1, none⟩) (Kd.R_far (p := ⟨gb162, 0, none⟩) (Kd.R_mono HO_8.out (fun k_ hk => (⟨hk, hk.2⟩ : _ ∧ k_ ≠ gb162))) (fun _ hk => hk.2) (.int .i64 t158)) (fun _ hk => hk.2) (.int .i64 t159)) (fun _ hk => hk.2) (.bool true)) (fun _ hk => hk.1.2))); (case aS => exact (below_size (bw HB))); (case aL => have := LMc21.out; omega); intro v164 w32 ho hb hg hat; rw [← Ny163.out] at ho; replace BK155 := Aside0.mk (blk_grown (bx BK155) hg (by first | exact Kd.R_ne HO_8.out BK155.out (by decide) | exact (fun e => by have z := And.left HO_8.out _ e.symm; simp at z))); replace BK156 := Aside0.mk (blk_grown (bx BK156) hg (by first | exact Kd.R_ne HO_8.out BK156.out (by decide) | exact (fun e => by have z := And.left HO_8.out _ e.symm; simp at z))); replace BK157 := Aside0.mk (blk_grown (bx BK157) hg (by first | exact Kd.R_ne HO_8.out BK157.out (by decide) | exact (fun e => by have z := And.left HO_8.out _ e.symm; simp at z))); replace BK162 := Aside0.mk (blk_grown (o := .cells #[.int .i64 t158, .int .i64 t159, .bool true] 35 (0, 0)) (bp BK162) hg (Kd.R_away HO_8.out (fun _ hk => hk.2))); replace HB := Aside0.mk (hb); have HO165 := Aside0.mk (ho); clear HO_8; clear ho hb hg hat; obtain ⟨hcz33_0, hcz33_1, hcz33_2⟩ := cz3 BK162; obtain ⟨hfz33_0, hfz33_1, hfz33_2⟩ := fz3 BK162; have hnb34 := NB156_155.out; have hnc34 := NB155_156.out; obtain ⟨hcz35_0, hcz35_1⟩ := cz2 BK156; obtain ⟨hfz35_0, hfz35_1⟩ := fz2 BK156; obtain ⟨hcz36_0, hcz36_1⟩ := cz2 BK157; obtain ⟨hfz36_0, hfz36_1⟩ := fz2 BK157))
        repeat (go_quiet (first | (go_at_call 16; (with_reducible refine (fill_One.calls k1 _ _ l0 x10_1 x158000_1 x158001_1 t158 t159 true t161 _ ?side1 ?side2 A19.out).mono ?_); (case side1 => repeat (first | exact (Kd.C_below HR0.out HB.out) | (with_reducible refine Kd.C_alloc ?_ _) | (with_reducible refine Kd.C_drewN ?_ _) | (with_reducible refine Kd.C_drew ?_))); (case side2 => exact HC0.out); rintro e w26 ⟨rfl, hb⟩; replace HO_8 := Aside0.mk (Kd.R_below (rx HO_8) hb); replace BK155 := bb BK155 hb; replace BK156 := bb BK156 hb; replace BK157 := bb BK157 hb; replace HB := bh HB hb; (try clear hb); (try clear hb2); (try clear hk); (try clear hi)) | ((with_reducible refine gate_dst (N := 12) rfl ?_); (try (refine gate_guard (by rfl) ?_; dsimp only)); refine box_event ?hg (N := 12) ?hd (cs := #[.int .i64 0, .int .i64 0, .bool false]) (t := 35) ?hr ?_; (case hd => rfl); (case hg => rfl); (case hr => first | (go_simp; done) | (go_simp; rfl)); intro gb162 hg w27 hbox hb; replace HO_8 := Aside0.mk (Kd.R_below (Kd.R_elderB (rx HO_8) gb162 (Nat.le_of_eq hg.symm)) hb); have BK162 := Aside0.mk (hbox); have GW162 := bge HB hg; have GE162 := bge HB hg; replace HB := bh HB hb; have NB155_162 := nbl BK155 hg; have NB162_155 := nbg BK155 hg; replace BK155 := bb BK155 hb; have NB156_162 := nbl BK156 hg; have NB162_156 := nbg BK156 hg; replace BK156 := bb BK156 hb; have NB157_162 := nbl BK157 hg; have NB162_157 := nbg BK157 hg; replace BK157 := bb BK157 hb; clear hb hbox hg; have hnb28 := NB162_155.out; have hnc28 := NB155_162.out; have hnb29 := NB162_156.out; have hnc29 := NB156_162.out; have hnb30 := NB162_157.out; have hnc30 := NB157_162.out; obtain ⟨hcz31_0, hcz31_1, hcz31_2⟩ := cz3 BK162; obtain ⟨hfz31_0, hfz31_1, hfz31_2⟩ := fz3 BK162) | ((with_reducible refine gate_builtin (b := .append) (xs := #[.tmp 30, .tmp 32]) rfl ?_); (try (refine gate_guard (by rfl) ?_; dsimp only)); at_builtin; refine Kd.R_append k35 (w0 := w) w.heap.size rfl (.tmp 30) (.tmp 32) 26 35 (.agg #[(.int .i64 0), (.int .i64 0), (.bool false)]) 24 rfl Try.underlying26 info35 rfl (by decide) (by omega) u8 x8_1 (⟨t158, t159, true⟩ : S35) [.int .i64 t158, .int .i64 t159, .bool true] (fun k_ => k_ ≠ gb162) (fun _ => False) rfl (by first | (go_simp; done) | (go_simp; rfl)) ?aP (fun _ hk => hk.elim) ?aF ?aO ?aB ?aS ?aL ?_; (case aP => exact k35_mkM _ _ _ (⟨t158, t159, true⟩ : S35)); (case aB => exact (bw HB)); (case aF => exact (fun k_ hk => Kd.freshB (o := .cells #[.int .i64 t158, .int .i64 t159, .bool true] 35 (0, 0)) (bp BK162) k_ hk)); (case aO => exact (by (with_reducible repeat (first | apply Kd.R_alloc | apply Kd.R_drewN | apply Kd.R_drew)); exact Kd.R_mono (Kd.R_far (p := ⟨gb162, 2, none⟩) (Kd.R_far (p := ⟨gb162, 1, none⟩) (Kd.R_far (p := ⟨gb162, 0, none⟩) (Kd.R_mono HO_8.out (fun k_ hk => (⟨hk, hk.2⟩ : _ ∧ k_ ≠ gb162))) (fun _ hk => hk.2) (.int .i64 t158)) (fun _ hk => hk.2) (.int .i64 t159)) (fun _ hk => hk.2) (.bool true)) (fun _ hk => hk.1.2))); (case aS => exact (below_size (bw HB))); (case aL => have := LMc21.out; omega); intro v164 w32 ho hb hg hat; rw [← Ny163.out] at ho; replace BK155 := Aside0.mk (blk_grown (bx BK155) hg (by first | exact Kd.R_ne HO_8.out BK155.out (by decide) | exact (fun e => by have z := And.left HO_8.out _ e.symm; simp at z))); replace BK156 := Aside0.mk (blk_grown (bx BK156) hg (by first | exact Kd.R_ne HO_8.out BK156.out (by decide) | exact (fun e => by have z := And.left HO_8.out _ e.symm; simp at z))); replace BK157 := Aside0.mk (blk_grown (bx BK157) hg (by first | exact Kd.R_ne HO_8.out BK157.out (by decide) | exact (fun e => by have z := And.left HO_8.out _ e.symm; simp at z))); replace BK162 := Aside0.mk (blk_grown (o := .cells #[.int .i64 t158, .int .i64 t159, .bool true] 35 (0, 0)) (bp BK162) hg (Kd.R_away HO_8.out (fun _ hk => hk.2))); replace HB := Aside0.mk (hb); have HO165 := Aside0.mk (ho); clear HO_8; clear ho hb hg hat; obtain ⟨hcz33_0, hcz33_1, hcz33_2⟩ := cz3 BK162; obtain ⟨hfz33_0, hfz33_1, hfz33_2⟩ := fz3 BK162; have hnb34 := NB156_155.out; have hnc34 := NB155_156.out; obtain ⟨hcz35_0, hcz35_1⟩ := cz2 BK156; obtain ⟨hfz35_0, hfz35_1⟩ := fz2 BK156; obtain ⟨hcz36_0, hcz36_1⟩ := cz2 BK157; obtain ⟨hfz36_0, hfz36_1⟩ := fz2 BK157)); try go_wp2_with (first | (go_at_call 16; (with_reducible refine (fill_One.calls k1 _ _ l0 x10_1 x158000_1 x158001_1 t158 t159 true t161 _ ?side1 ?side2 A19.out).mono ?_); (case side1 => repeat (first | exact (Kd.C_below HR0.out HB.out) | (with_reducible refine Kd.C_alloc ?_ _) | (with_reducible refine Kd.C_drewN ?_ _) | (with_reducible refine Kd.C_drew ?_))); (case side2 => exact HC0.out); rintro e w26 ⟨rfl, hb⟩; replace HO_8 := Aside0.mk (Kd.R_below (rx HO_8) hb); replace BK155 := bb BK155 hb; replace BK156 := bb BK156 hb; replace BK157 := bb BK157 hb; replace HB := bh HB hb; (try clear hb); (try clear hb2); (try clear hk); (try clear hi)) | ((with_reducible refine gate_dst (N := 12) rfl ?_); (try (refine gate_guard (by rfl) ?_; dsimp only)); refine box_event ?hg (N := 12) ?hd (cs := #[.int .i64 0, .int .i64 0, .bool false]) (t := 35) ?hr ?_; (case hd => rfl); (case hg => rfl); (case hr => first | (go_simp; done) | (go_simp; rfl)); intro gb162 hg w27 hbox hb; replace HO_8 := Aside0.mk (Kd.R_below (Kd.R_elderB (rx HO_8) gb162 (Nat.le_of_eq hg.symm)) hb); have BK162 := Aside0.mk (hbox); have GW162 := bge HB hg; have GE162 := bge HB hg; replace HB := bh HB hb; have NB155_162 := nbl BK155 hg; have NB162_155 := nbg BK155 hg; replace BK155 := bb BK155 hb; have NB156_162 := nbl BK156 hg; have NB162_156 := nbg BK156 hg; replace BK156 := bb BK156 hb; have NB157_162 := nbl BK157 hg; have NB162_157 := nbg BK157 hg; replace BK157 := bb BK157 hb; clear hb hbox hg; have hnb28 := NB162_155.out; have hnc28 := NB155_162.out; have hnb29 := NB162_156.out; have hnc29 := NB156_162.out; have hnb30 := NB162_157.out; have hnc30 := NB157_162.out; obtain ⟨hcz31_0, hcz31_1, hcz31_2⟩ := cz3 BK162; obtain ⟨hfz31_0, hfz31_1, hfz31_2⟩ := fz3 BK162) | ((with_reducible refine gate_builtin (b := .append) (xs := #[.tmp 30, .tmp 32]) rfl ?_); (try (refine gate_guard (by rfl) ?_; dsimp only)); at_builtin; refine Kd.R_append k35 (w0 := w) w.heap.size rfl (.tmp 30) (.tmp 32) 26 35 (.agg #[(.int .i64 0), (.int .i64 0), (.bool false)]) 24 rfl Try.underlying26 info35 rfl (by decide) (by omega) u8 x8_1 (⟨t158, t159, true⟩ : S35) [.int .i64 t158, .int .i64 t159, .bool true] (fun k_ => k_ ≠ gb162) (fun _ => False) rfl (by first | (go_simp; done) | (go_simp; rfl)) ?aP (fun _ hk => hk.elim) ?aF ?aO ?aB ?aS ?aL ?_; (case aP => exact k35_mkM _ _ _ (⟨t158, t159, true⟩ : S35)); (case aB => exact (bw HB)); (case aF => exact (fun k_ hk => Kd.freshB (o := .cells #[.int .i64 t158, .int .i64 t159, .bool true] 35 (0, 0)) (bp BK162) k_ hk)); (case aO => exact (by (with_reducible repeat (first | apply Kd.R_alloc | apply Kd.R_drewN | apply Kd.R_drew)); exact Kd.R_mono (Kd.R_far (p := ⟨gb162, 2, none⟩) (Kd.R_far (p := ⟨gb162, 1, none⟩) (Kd.R_far (p := ⟨gb162, 0, none⟩) (Kd.R_mono HO_8.out (fun k_ hk => (⟨hk, hk.2⟩ : _ ∧ k_ ≠ gb162))) (fun _ hk => hk.2) (.int .i64 t158)) (fun _ hk => hk.2) (.int .i64 t159)) (fun _ hk => hk.2) (.bool true)) (fun _ hk => hk.1.2))); (case aS => exact (below_size (bw HB))); (case aL => have := LMc21.out; omega); intro v164 w32 ho hb hg hat; rw [← Ny163.out] at ho; replace BK155 := Aside0.mk (blk_grown (bx BK155) hg (by first | exact Kd.R_ne HO_8.out BK155.out (by decide) | exact (fun e => by have z := And.left HO_8.out _ e.symm; simp at z))); replace BK156 := Aside0.mk (blk_grown (bx BK156) hg (by first | exact Kd.R_ne HO_8.out BK156.out (by decide) | exact (fun e => by have z := And.left HO_8.out _ e.symm; simp at z))); replace BK157 := Aside0.mk (blk_grown (bx BK157) hg (by first | exact Kd.R_ne HO_8.out BK157.out (by decide) | exact (fun e => by have z := And.left HO_8.out _ e.symm; simp at z))); replace BK162 := Aside0.mk (blk_grown (o := .cells #[.int .i64 t158, .int .i64 t159, .bool true] 35 (0, 0)) (bp BK162) hg (Kd.R_away HO_8.out (fun _ hk => hk.2))); replace HB := Aside0.mk (hb); have HO165 := Aside0.mk (ho); clear HO_8; clear ho hb hg hat; obtain ⟨hcz33_0, hcz33_1, hcz33_2⟩ := cz3 BK162; obtain ⟨hfz33_0, hfz33_1, hfz33_2⟩ := fz3 BK162; have hnb34 := NB156_155.out; have hnc34 := NB155_156.out; obtain ⟨hcz35_0, hcz35_1⟩ := cz2 BK156; obtain ⟨hfz35_0, hfz35_1⟩ := fz2 BK156; obtain ⟨hcz36_0, hcz36_1⟩ := cz2 BK157; obtain ⟨hfz36_0, hfz36_1⟩ := fz2 BK157)))
        go_roundg k1
        case measure => have := HK1.out; omega
        case rel => exact ⟨(y163), (t159), (true), (a2_0), (a2_1), (by first | rfl | (simp; done) | (simp [*]; done)), (by first | rfl | (simp; done) | (simp [*]; done)), H', ⟨by have := HK1.out; omega⟩, ⟨by (with_reducible repeat (first | apply Kd.R_alloc | apply Kd.R_drewN | apply Kd.R_drew)); exact Kd.R_mono (Kd.R_far (p := ⟨gb157, 1, none⟩) (Kd.R_far (p := ⟨gb157, 0, none⟩) (Kd.R_types HO165.out BK157.out (by decide)) (fun _ hk => hk.2) (.int .i64 a2_0)) (fun _ hk => hk.2) (.int .i64 a2_1)) (fun _ hk => trivial)⟩, ⟨by (with_reducible repeat (first | refine blk_drewN ?_ _ | refine blk_drew ?_ | refine blk_alloc ?_ _)); refine blk_far ?_ NB155_157.out _; (with_reducible repeat (first | refine blk_drewN ?_ _ | refine blk_drew ?_ | refine blk_alloc ?_ _)); refine blk_far ?_ NB155_157.out _; (with_reducible repeat (first | refine blk_drewN ?_ _ | refine blk_drew ?_ | refine blk_alloc ?_ _)); exact BK155.out⟩, ⟨by (with_reducible repeat (first | refine blk_drewN ?_ _ | refine blk_drew ?_ | refine blk_alloc ?_ _)); refine blk_far ?_ NB156_157.out _; (with_reducible repeat (first | refine blk_drewN ?_ _ | refine blk_drew ?_ | refine blk_alloc ?_ _)); refine blk_far ?_ NB156_157.out _; (with_reducible repeat (first | refine blk_drewN ?_ _ | refine blk_drew ?_ | refine blk_alloc ?_ _)); exact BK156.out⟩, ⟨by (with_reducible repeat (first | refine blk_drewN ?_ _ | refine blk_drew ?_ | refine blk_alloc ?_ _)); refine blk_put (cs := #[.int .i64 a2_0, .int .i64 x158001_1]) ?_ 1 _ rfl; (with_reducible repeat (first | refine blk_drewN ?_ _ | refine blk_drew ?_ | refine blk_alloc ?_ _)); refine blk_put (cs := #[.int .i64 x158000_1, .int .i64 x158001_1]) ?_ 0 _ rfl; (with_reducible repeat (first | refine blk_drewN ?_ _ | refine blk_drew ?_ | refine blk_alloc ?_ _)); exact BK157.out⟩, ⟨by repeat (first | (with_reducible first | exact HB.out | apply below_alloc | apply pw_below_drewN | apply below_drew1 | refine below_set ?_ GE155.out | refine below_set ?_ GE156.out | refine below_set ?_ GE157.out | refine below_set ?_ GE162.out) | exact HB.out)⟩⟩
       ·replace c22 := Bool.eq_false_iff.mpr c22
        subst c22
        have H1 : (fill_Lines.l0 k1 l0 y163 t159 (decide (t159 < (l0.length : Int))) a2_0 a2_1 a2_0 a2_1) = some (r1, r2) := by rw [if_neg (show ¬ (false = true) by decide)] at H; exact H
        clear H
        have H := H1
        clear H1
        have H' := Aside0.mk H
        clear H
        have hnb37 := NB157_155.out
        have hnc37 := NB155_157.out
        have hnb38 := NB157_156.out
        have hnc38 := NB156_157.out
        obtain ⟨hcz39_0, hcz39_1⟩ := cz2 BK157
        obtain ⟨hfz39_0, hfz39_1⟩ := fz2 BK157
        go_wp2_with (first | (go_at_call 16; (with_reducible refine (fill_One.calls k1 _ _ l0 x10_1 x158000_1 x158001_1 t158 t159 false t161 _ ?side1 ?side2 A19.out).mono ?_); (case side1 => repeat (first | exact (Kd.C_below HR0.out HB.out) | (with_reducible refine Kd.C_alloc ?_ _) | (with_reducible refine Kd.C_drewN ?_ _) | (with_reducible refine Kd.C_drew ?_))); (case side2 => exact HC0.out); rintro e w40 ⟨rfl, hb⟩; replace HO_8 := Aside0.mk (Kd.R_below (rx HO_8) hb); replace BK155 := bb BK155 hb; replace BK156 := bb BK156 hb; replace BK157 := bb BK157 hb; replace HB := bh HB hb; (try clear hb); (try clear hb2); (try clear hk); (try clear hi)) | ((with_reducible refine gate_dst (N := 12) rfl ?_); (try (refine gate_guard (by rfl) ?_; dsimp only)); refine box_event ?hg (N := 12) ?hd (cs := #[.int .i64 0, .int .i64 0, .bool false]) (t := 35) ?hr ?_; (case hd => rfl); (case hg => rfl); (case hr => first | (go_simp; done) | (go_simp; rfl)); intro gb162 hg w41 hbox hb; replace HO_8 := Aside0.mk (Kd.R_below (Kd.R_elderB (rx HO_8) gb162 (Nat.le_of_eq hg.symm)) hb); have BK162 := Aside0.mk (hbox); have GW162 := bge HB hg; have GE162 := bge HB hg; replace HB := bh HB hb; have NB155_162 := nbl BK155 hg; have NB162_155 := nbg BK155 hg; replace BK155 := bb BK155 hb; have NB156_162 := nbl BK156 hg; have NB162_156 := nbg BK156 hg; replace BK156 := bb BK156 hb; have NB157_162 := nbl BK157 hg; have NB162_157 := nbg BK157 hg; replace BK157 := bb BK157 hb; clear hb hbox hg; have hnb42 := NB162_155.out; have hnc42 := NB155_162.out; have hnb43 := NB162_156.out; have hnc43 := NB156_162.out; have hnb44 := NB162_157.out; have hnc44 := NB157_162.out; obtain ⟨hcz45_0, hcz45_1, hcz45_2⟩ := cz3 BK162; obtain ⟨hfz45_0, hfz45_1, hfz45_2⟩ := fz3 BK162) | ((with_reducible refine gate_builtin (b := .append) (xs := #[.tmp 30, .tmp 32]) rfl ?_); (try (refine gate_guard (by rfl) ?_; dsimp only)); at_builtin; refine Kd.R_append k35 (w0 := w) w.heap.size rfl (.tmp 30) (.tmp 32) 26 35 (.agg #[(.int .i64 0), (.int .i64 0), (.bool false)]) 24 rfl Try.underlying26 info35 rfl (by decide) (by omega) u8 x8_1 (⟨t158, t159, false⟩ : S35) [.int .i64 t158, .int .i64 t159, .bool false] (fun k_ => k_ ≠ gb162) (fun _ => False) rfl (by first | (go_simp; done) | (go_simp; rfl)) ?aP (fun _ hk => hk.elim) ?aF ?aO ?aB ?aS ?aL ?_; (case aP => exact k35_mkM _ _ _ (⟨t158, t159, false⟩ : S35)); (case aB => exact (bw HB)); (case aF => exact (fun k_ hk => Kd.freshB (o := .cells #[.int .i64 t158, .int .i64 t159, .bool false] 35 (0, 0)) (bp BK162) k_ hk)); (case aO => exact (by (with_reducible repeat (first | apply Kd.R_alloc | apply Kd.R_drewN | apply Kd.R_drew)); exact Kd.R_mono (Kd.R_far (p := ⟨gb162, 2, none⟩) (Kd.R_far (p := ⟨gb162, 1, none⟩) (Kd.R_far (p := ⟨gb162, 0, none⟩) (Kd.R_mono HO_8.out (fun k_ hk => (⟨hk, hk.2⟩ : _ ∧ k_ ≠ gb162))) (fun _ hk => hk.2) (.int .i64 t158)) (fun _ hk => hk.2) (.int .i64 t159)) (fun _ hk => hk.2) (.bool false)) (fun _ hk => hk.1.2))); (case aS => exact (below_size (bw HB))); (case aL => have := LMc21.out; omega); intro v164 w46 ho hb hg hat; rw [← Ny163.out] at ho; replace BK155 := Aside0.mk (blk_grown (bx BK155) hg (by first | exact Kd.R_ne HO_8.out BK155.out (by decide) | exact (fun e => by have z := And.left HO_8.out _ e.symm; simp at z))); replace BK156 := Aside0.mk (blk_grown (bx BK156) hg (by first | exact Kd.R_ne HO_8.out BK156.out (by decide) | exact (fun e => by have z := And.left HO_8.out _ e.symm; simp at z))); replace BK157 := Aside0.mk (blk_grown (bx BK157) hg (by first | exact Kd.R_ne HO_8.out BK157.out (by decide) | exact (fun e => by have z := And.left HO_8.out _ e.symm; simp at z))); replace BK162 := Aside0.mk (blk_grown (o := .cells #[.int .i64 t158, .int .i64 t159, .bool false] 35 (0, 0)) (bp BK162) hg (Kd.R_away HO_8.out (fun _ hk => hk.2))); replace HB := Aside0.mk (hb); have HO165 := Aside0.mk (ho); clear HO_8; clear ho hb hg hat; obtain ⟨hcz47_0, hcz47_1, hcz47_2⟩ := cz3 BK162; obtain ⟨hfz47_0, hfz47_1, hfz47_2⟩ := fz3 BK162; have hnb48 := NB156_155.out; have hnc48 := NB155_156.out; obtain ⟨hcz49_0, hcz49_1⟩ := cz2 BK156; obtain ⟨hfz49_0, hfz49_1⟩ := fz2 BK156; obtain ⟨hcz50_0, hcz50_1⟩ := cz2 BK157; obtain ⟨hfz50_0, hfz50_1⟩ := fz2 BK157))
        repeat (go_quiet (first | (go_at_call 16; (with_reducible refine (fill_One.calls k1 _ _ l0 x10_1 x158000_1 x158001_1 t158 t159 false t161 _ ?side1 ?side2 A19.out).mono ?_); (case side1 => repeat (first | exact (Kd.C_below HR0.out HB.out) | (with_reducible refine Kd.C_alloc ?_ _) | (with_reducible refine Kd.C_drewN ?_ _) | (with_reducible refine Kd.C_drew ?_))); (case side2 => exact HC0.out); rintro e w40 ⟨rfl, hb⟩; replace HO_8 := Aside0.mk (Kd.R_below (rx HO_8) hb); replace BK155 := bb BK155 hb; replace BK156 := bb BK156 hb; replace BK157 := bb BK157 hb; replace HB := bh HB hb; (try clear hb); (try clear hb2); (try clear hk); (try clear hi)) | ((with_reducible refine gate_dst (N := 12) rfl ?_); (try (refine gate_guard (by rfl) ?_; dsimp only)); refine box_event ?hg (N := 12) ?hd (cs := #[.int .i64 0, .int .i64 0, .bool false]) (t := 35) ?hr ?_; (case hd => rfl); (case hg => rfl); (case hr => first | (go_simp; done) | (go_simp; rfl)); intro gb162 hg w41 hbox hb; replace HO_8 := Aside0.mk (Kd.R_below (Kd.R_elderB (rx HO_8) gb162 (Nat.le_of_eq hg.symm)) hb); have BK162 := Aside0.mk (hbox); have GW162 := bge HB hg; have GE162 := bge HB hg; replace HB := bh HB hb; have NB155_162 := nbl BK155 hg; have NB162_155 := nbg BK155 hg; replace BK155 := bb BK155 hb; have NB156_162 := nbl BK156 hg; have NB162_156 := nbg BK156 hg; replace BK156 := bb BK156 hb; have NB157_162 := nbl BK157 hg; have NB162_157 := nbg BK157 hg; replace BK157 := bb BK157 hb; clear hb hbox hg; have hnb42 := NB162_155.out; have hnc42 := NB155_162.out; have hnb43 := NB162_156.out; have hnc43 := NB156_162.out; have hnb44 := NB162_157.out; have hnc44 := NB157_162.out; obtain ⟨hcz45_0, hcz45_1, hcz45_2⟩ := cz3 BK162; obtain ⟨hfz45_0, hfz45_1, hfz45_2⟩ := fz3 BK162) | ((with_reducible refine gate_builtin (b := .append) (xs := #[.tmp 30, .tmp 32]) rfl ?_); (try (refine gate_guard (by rfl) ?_; dsimp only)); at_builtin; refine Kd.R_append k35 (w0 := w) w.heap.size rfl (.tmp 30) (.tmp 32) 26 35 (.agg #[(.int .i64 0), (.int .i64 0), (.bool false)]) 24 rfl Try.underlying26 info35 rfl (by decide) (by omega) u8 x8_1 (⟨t158, t159, false⟩ : S35) [.int .i64 t158, .int .i64 t159, .bool false] (fun k_ => k_ ≠ gb162) (fun _ => False) rfl (by first | (go_simp; done) | (go_simp; rfl)) ?aP (fun _ hk => hk.elim) ?aF ?aO ?aB ?aS ?aL ?_; (case aP => exact k35_mkM _ _ _ (⟨t158, t159, false⟩ : S35)); (case aB => exact (bw HB)); (case aF => exact (fun k_ hk => Kd.freshB (o := .cells #[.int .i64 t158, .int .i64 t159, .bool false] 35 (0, 0)) (bp BK162) k_ hk)); (case aO => exact (by (with_reducible repeat (first | apply Kd.R_alloc | apply Kd.R_drewN | apply Kd.R_drew)); exact Kd.R_mono (Kd.R_far (p := ⟨gb162, 2, none⟩) (Kd.R_far (p := ⟨gb162, 1, none⟩) (Kd.R_far (p := ⟨gb162, 0, none⟩) (Kd.R_mono HO_8.out (fun k_ hk => (⟨hk, hk.2⟩ : _ ∧ k_ ≠ gb162))) (fun _ hk => hk.2) (.int .i64 t158)) (fun _ hk => hk.2) (.int .i64 t159)) (fun _ hk => hk.2) (.bool false)) (fun _ hk => hk.1.2))); (case aS => exact (below_size (bw HB))); (case aL => have := LMc21.out; omega); intro v164 w46 ho hb hg hat; rw [← Ny163.out] at ho; replace BK155 := Aside0.mk (blk_grown (bx BK155) hg (by first | exact Kd.R_ne HO_8.out BK155.out (by decide) | exact (fun e => by have z := And.left HO_8.out _ e.symm; simp at z))); replace BK156 := Aside0.mk (blk_grown (bx BK156) hg (by first | exact Kd.R_ne HO_8.out BK156.out (by decide) | exact (fun e => by have z := And.left HO_8.out _ e.symm; simp at z))); replace BK157 := Aside0.mk (blk_grown (bx BK157) hg (by first | exact Kd.R_ne HO_8.out BK157.out (by decide) | exact (fun e => by have z := And.left HO_8.out _ e.symm; simp at z))); replace BK162 := Aside0.mk (blk_grown (o := .cells #[.int .i64 t158, .int .i64 t159, .bool false] 35 (0, 0)) (bp BK162) hg (Kd.R_away HO_8.out (fun _ hk => hk.2))); replace HB := Aside0.mk (hb); have HO165 := Aside0.mk (ho); clear HO_8; clear ho hb hg hat; obtain ⟨hcz47_0, hcz47_1, hcz47_2⟩ := cz3 BK162; obtain ⟨hfz47_0, hfz47_1, hfz47_2⟩ := fz3 BK162; have hnb48 := NB156_155.out; have hnc48 := NB155_156.out; obtain ⟨hcz49_0, hcz49_1⟩ := cz2 BK156; obtain ⟨hfz49_0, hfz49_1⟩ := fz2 BK156; obtain ⟨hcz50_0, hcz50_1⟩ := cz2 BK157; obtain ⟨hfz50_0, hfz50_1⟩ := fz2 BK157)); try go_wp2_with (first | (go_at_call 16; (with_reducible refine (fill_One.calls k1 _ _ l0 x10_1 x158000_1 x158001_1 t158 t159 false t161 _ ?side1 ?side2 A19.out).mono ?_); (case side1 => repeat (first | exact (Kd.C_below HR0.out HB.out) | (with_reducible refine Kd.C_alloc ?_ _) | (with_reducible refine Kd.C_drewN ?_ _) | (with_reducible refine Kd.C_drew ?_))); (case side2 => exact HC0.out); rintro e w40 ⟨rfl, hb⟩; replace HO_8 := Aside0.mk (Kd.R_below (rx HO_8) hb); replace BK155 := bb BK155 hb; replace BK156 := bb BK156 hb; replace BK157 := bb BK157 hb; replace HB := bh HB hb; (try clear hb); (try clear hb2); (try clear hk); (try clear hi)) | ((with_reducible refine gate_dst (N := 12) rfl ?_); (try (refine gate_guard (by rfl) ?_; dsimp only)); refine box_event ?hg (N := 12) ?hd (cs := #[.int .i64 0, .int .i64 0, .bool false]) (t := 35) ?hr ?_; (case hd => rfl); (case hg => rfl); (case hr => first | (go_simp; done) | (go_simp; rfl)); intro gb162 hg w41 hbox hb; replace HO_8 := Aside0.mk (Kd.R_below (Kd.R_elderB (rx HO_8) gb162 (Nat.le_of_eq hg.symm)) hb); have BK162 := Aside0.mk (hbox); have GW162 := bge HB hg; have GE162 := bge HB hg; replace HB := bh HB hb; have NB155_162 := nbl BK155 hg; have NB162_155 := nbg BK155 hg; replace BK155 := bb BK155 hb; have NB156_162 := nbl BK156 hg; have NB162_156 := nbg BK156 hg; replace BK156 := bb BK156 hb; have NB157_162 := nbl BK157 hg; have NB162_157 := nbg BK157 hg; replace BK157 := bb BK157 hb; clear hb hbox hg; have hnb42 := NB162_155.out; have hnc42 := NB155_162.out; have hnb43 := NB162_156.out; have hnc43 := NB156_162.out; have hnb44 := NB162_157.out; have hnc44 := NB157_162.out; obtain ⟨hcz45_0, hcz45_1, hcz45_2⟩ := cz3 BK162; obtain ⟨hfz45_0, hfz45_1, hfz45_2⟩ := fz3 BK162) | ((with_reducible refine gate_builtin (b := .append) (xs := #[.tmp 30, .tmp 32]) rfl ?_); (try (refine gate_guard (by rfl) ?_; dsimp only)); at_builtin; refine Kd.R_append k35 (w0 := w) w.heap.size rfl (.tmp 30) (.tmp 32) 26 35 (.agg #[(.int .i64 0), (.int .i64 0), (.bool false)]) 24 rfl Try.underlying26 info35 rfl (by decide) (by omega) u8 x8_1 (⟨t158, t159, false⟩ : S35) [.int .i64 t158, .int .i64 t159, .bool false] (fun k_ => k_ ≠ gb162) (fun _ => False) rfl (by first | (go_simp; done) | (go_simp; rfl)) ?aP (fun _ hk => hk.elim) ?aF ?aO ?aB ?aS ?aL ?_; (case aP => exact k35_mkM _ _ _ (⟨t158, t159, false⟩ : S35)); (case aB => exact (bw HB)); (case aF => exact (fun k_ hk => Kd.freshB (o := .cells #[.int .i64 t158, .int .i64 t159, .bool false] 35 (0, 0)) (bp BK162) k_ hk)); (case aO => exact (by (with_reducible repeat (first | apply Kd.R_alloc | apply Kd.R_drewN | apply Kd.R_drew)); exact Kd.R_mono (Kd.R_far (p := ⟨gb162, 2, none⟩) (Kd.R_far (p := ⟨gb162, 1, none⟩) (Kd.R_far (p := ⟨gb162, 0, none⟩) (Kd.R_mono HO_8.out (fun k_ hk => (⟨hk, hk.2⟩ : _ ∧ k_ ≠ gb162))) (fun _ hk => hk.2) (.int .i64 t158)) (fun _ hk => hk.2) (.int .i64 t159)) (fun _ hk => hk.2) (.bool false)) (fun _ hk => hk.1.2))); (case aS => exact (below_size (bw HB))); (case aL => have := LMc21.out; omega); intro v164 w46 ho hb hg hat; rw [← Ny163.out] at ho; replace BK155 := Aside0.mk (blk_grown (bx BK155) hg (by first | exact Kd.R_ne HO_8.out BK155.out (by decide) | exact (fun e => by have z := And.left HO_8.out _ e.symm; simp at z))); replace BK156 := Aside0.mk (blk_grown (bx BK156) hg (by first | exact Kd.R_ne HO_8.out BK156.out (by decide) | exact (fun e => by have z := And.left HO_8.out _ e.symm; simp at z))); replace BK157 := Aside0.mk (blk_grown (bx BK157) hg (by first | exact Kd.R_ne HO_8.out BK157.out (by decide) | exact (fun e => by have z := And.left HO_8.out _ e.symm; simp at z))); replace BK162 := Aside0.mk (blk_grown (o := .cells #[.int .i64 t158, .int .i64 t159, .bool false] 35 (0, 0)) (bp BK162) hg (Kd.R_away HO_8.out (fun _ hk => hk.2))); replace HB := Aside0.mk (hb); have HO165 := Aside0.mk (ho); clear HO_8; clear ho hb hg hat; obtain ⟨hcz47_0, hcz47_1, hcz47_2⟩ := cz3 BK162; obtain ⟨hfz47_0, hfz47_1, hfz47_2⟩ := fz3 BK162; have hnb48 := NB156_155.out; have hnc48 := NB155_156.out; obtain ⟨hcz49_0, hcz49_1⟩ := cz2 BK156; obtain ⟨hfz49_0, hfz49_1⟩ := fz2 BK156; obtain ⟨hcz50_0, hcz50_1⟩ := cz2 BK157; obtain ⟨hfz50_0, hfz50_1⟩ := fz2 BK157)))
        go_roundg k1
        case measure => have := HK1.out; omega
        case rel => exact ⟨(y163), (t159), (decide (t159 < (l0.length : Int))), (a2_0), (a2_1), (by first | rfl | (simp; done) | (simp [*]; done)), (by first | rfl | (simp; done) | (simp [*]; done)), H', ⟨by have := HK1.out; omega⟩, ⟨by (with_reducible repeat (first | apply Kd.R_alloc | apply Kd.R_drewN | apply Kd.R_drew)); exact Kd.R_mono (Kd.R_far (p := ⟨gb157, 1, none⟩) (Kd.R_far (p := ⟨gb157, 0, none⟩) (Kd.R_types HO165.out BK157.out (by decide)) (fun _ hk => hk.2) (.int .i64 a2_0)) (fun _ hk => hk.2) (.int .i64 a2_1)) (fun _ hk => trivial)⟩, ⟨by (with_reducible repeat (first | refine blk_drewN ?_ _ | refine blk_drew ?_ | refine blk_alloc ?_ _)); refine blk_far ?_ NB155_157.out _; (with_reducible repeat (first | refine blk_drewN ?_ _ | refine blk_drew ?_ | refine blk_alloc ?_ _)); refine blk_far ?_ NB155_157.out _; (with_reducible repeat (first | refine blk_drewN ?_ _ | refine blk_drew ?_ | refine blk_alloc ?_ _)); exact BK155.out⟩, ⟨by (with_reducible repeat (first | refine blk_drewN ?_ _ | refine blk_drew ?_ | refine blk_alloc ?_ _)); refine blk_far ?_ NB156_157.out _; (with_reducible repeat (first | refine blk_drewN ?_ _ | refine blk_drew ?_ | refine blk_alloc ?_ _)); refine blk_far ?_ NB156_157.out _; (with_reducible repeat (first | refine blk_drewN ?_ _ | refine blk_drew ?_ | refine blk_alloc ?_ _)); exact BK156.out⟩, ⟨by (with_reducible repeat (first | refine blk_drewN ?_ _ | refine blk_drew ?_ | refine blk_alloc ?_ _)); refine blk_put (cs := #[.int .i64 a2_0, .int .i64 x158001_1]) ?_ 1 _ rfl; (with_reducible repeat (first | refine blk_drewN ?_ _ | refine blk_drew ?_ | refine blk_alloc ?_ _)); refine blk_put (cs := #[.int .i64 x158000_1, .int .i64 x158001_1]) ?_ 0 _ rfl; (with_reducible repeat (first | refine blk_drewN ?_ _ | refine blk_drew ?_ | refine blk_alloc ?_ _)); exact BK157.out⟩, ⟨by repeat (first | (with_reducible first | exact HB.out | apply below_alloc | apply pw_below_drewN | apply below_drew1 | refine below_set ?_ GE155.out | refine below_set ?_ GE156.out | refine below_set ?_ GE157.out | refine below_set ?_ GE162.out) | exact HB.out)⟩⟩
      ·rw [if_neg c21] at H
       exact absurd H (by simp)
     ·rw [if_neg c20] at H
      have c20b0 : (t161 == 0) = false := beq_eq_false_iff_ne.mpr c20
      have c20b1 : (t161 != 0) = true := bne_iff_ne.mpr c20
      simp only [Option.some.injEq, Prod.mk.injEq] at H
      obtain ⟨rfl, rfl⟩ := H
      have hnb51 := NB157_155.out
      have hnc51 := NB155_157.out
      have hnb52 := NB157_156.out
      have hnc52 := NB156_157.out
      obtain ⟨hcz53_0, hcz53_1⟩ := cz2 BK157
      obtain ⟨hfz53_0, hfz53_1⟩ := fz2 BK157
      go_wp2_with (first | (go_at_call 16; (with_reducible refine (fill_One.calls k1 _ _ l0 x10_1 x158000_1 x158001_1 t158 t159 t160 t161 _ ?side1 ?side2 A19.out).mono ?_); (case side1 => repeat (first | exact (Kd.C_below HR0.out HB.out) | (with_reducible refine Kd.C_alloc ?_ _) | (with_reducible refine Kd.C_drewN ?_ _) | (with_reducible refine Kd.C_drew ?_))); (case side2 => exact HC0.out); rintro e w54 ⟨rfl, hb⟩; replace HO_8 := Aside0.mk (Kd.R_below (rx HO_8) hb); replace BK155 := bb BK155 hb; replace BK156 := bb BK156 hb; replace BK157 := bb BK157 hb; replace HB := bh HB hb; (try clear hb); (try clear hb2); (try clear hk); (try clear hi)) | ((with_reducible refine gate_dst (N := 12) rfl ?_); (try (refine gate_guard (by rfl) ?_; dsimp only)); refine box_event ?hg (N := 12) ?hd (cs := #[.int .i64 0, .int .i64 0, .bool false]) (t := 35) ?hr ?_; (case hd => rfl); (case hg => rfl); (case hr => first | (go_simp; done) | (go_simp; rfl)); intro gb162 hg w55 hbox hb; replace HO_8 := Aside0.mk (Kd.R_below (Kd.R_elderB (rx HO_8) gb162 (Nat.le_of_eq hg.symm)) hb); have BK162 := Aside0.mk (hbox); have GW162 := bge HB hg; have GE162 := bge HB hg; replace HB := bh HB hb; have NB155_162 := nbl BK155 hg; have NB162_155 := nbg BK155 hg; replace BK155 := bb BK155 hb; have NB156_162 := nbl BK156 hg; have NB162_156 := nbg BK156 hg; replace BK156 := bb BK156 hb; have NB157_162 := nbl BK157 hg; have NB162_157 := nbg BK157 hg; replace BK157 := bb BK157 hb; clear hb hbox hg; have hnb56 := NB162_155.out; have hnc56 := NB155_162.out; have hnb57 := NB162_156.out; have hnc57 := NB156_162.out; have hnb58 := NB162_157.out; have hnc58 := NB157_162.out; obtain ⟨hcz59_0, hcz59_1, hcz59_2⟩ := cz3 BK162; obtain ⟨hfz59_0, hfz59_1, hfz59_2⟩ := fz3 BK162))
      repeat (go_quiet (first | (go_at_call 16; (with_reducible refine (fill_One.calls k1 _ _ l0 x10_1 x158000_1 x158001_1 t158 t159 t160 t161 _ ?side1 ?side2 A19.out).mono ?_); (case side1 => repeat (first | exact (Kd.C_below HR0.out HB.out) | (with_reducible refine Kd.C_alloc ?_ _) | (with_reducible refine Kd.C_drewN ?_ _) | (with_reducible refine Kd.C_drew ?_))); (case side2 => exact HC0.out); rintro e w54 ⟨rfl, hb⟩; replace HO_8 := Aside0.mk (Kd.R_below (rx HO_8) hb); replace BK155 := bb BK155 hb; replace BK156 := bb BK156 hb; replace BK157 := bb BK157 hb; replace HB := bh HB hb; (try clear hb); (try clear hb2); (try clear hk); (try clear hi)) | ((with_reducible refine gate_dst (N := 12) rfl ?_); (try (refine gate_guard (by rfl) ?_; dsimp only)); refine box_event ?hg (N := 12) ?hd (cs := #[.int .i64 0, .int .i64 0, .bool false]) (t := 35) ?hr ?_; (case hd => rfl); (case hg => rfl); (case hr => first | (go_simp; done) | (go_simp; rfl)); intro gb162 hg w55 hbox hb; replace HO_8 := Aside0.mk (Kd.R_below (Kd.R_elderB (rx HO_8) gb162 (Nat.le_of_eq hg.symm)) hb); have BK162 := Aside0.mk (hbox); have GW162 := bge HB hg; have GE162 := bge HB hg; replace HB := bh HB hb; have NB155_162 := nbl BK155 hg; have NB162_155 := nbg BK155 hg; replace BK155 := bb BK155 hb; have NB156_162 := nbl BK156 hg; have NB162_156 := nbg BK156 hg; replace BK156 := bb BK156 hb; have NB157_162 := nbl BK157 hg; have NB162_157 := nbg BK157 hg; replace BK157 := bb BK157 hb; clear hb hbox hg; have hnb56 := NB162_155.out; have hnc56 := NB155_162.out; have hnb57 := NB162_156.out; have hnc57 := NB156_162.out; have hnb58 := NB162_157.out; have hnc58 := NB157_162.out; obtain ⟨hcz59_0, hcz59_1, hcz59_2⟩ := cz3 BK162; obtain ⟨hfz59_0, hfz59_1, hfz59_2⟩ := fz3 BK162)); try go_wp2_with (first | (go_at_call 16; (with_reducible refine (fill_One.calls k1 _ _ l0 x10_1 x158000_1 x158001_1 t158 t159 t160 t161 _ ?side1 ?side2 A19.out).mono ?_); (case side1 => repeat (first | exact (Kd.C_below HR0.out HB.out) | (with_reducible refine Kd.C_alloc ?_ _) | (with_reducible refine Kd.C_drewN ?_ _) | (with_reducible refine Kd.C_drew ?_))); (case side2 => exact HC0.out); rintro e w54 ⟨rfl, hb⟩; replace HO_8 := Aside0.mk (Kd.R_below (rx HO_8) hb); replace BK155 := bb BK155 hb; replace BK156 := bb BK156 hb; replace BK157 := bb BK157 hb; replace HB := bh HB hb; (try clear hb); (try clear hb2); (try clear hk); (try clear hi)) | ((with_reducible refine gate_dst (N := 12) rfl ?_); (try (refine gate_guard (by rfl) ?_; dsimp only)); refine box_event ?hg (N := 12) ?hd (cs := #[.int .i64 0, .int .i64 0, .bool false]) (t := 35) ?hr ?_; (case hd => rfl); (case hg => rfl); (case hr => first | (go_simp; done) | (go_simp; rfl)); intro gb162 hg w55 hbox hb; replace HO_8 := Aside0.mk (Kd.R_below (Kd.R_elderB (rx HO_8) gb162 (Nat.le_of_eq hg.symm)) hb); have BK162 := Aside0.mk (hbox); have GW162 := bge HB hg; have GE162 := bge HB hg; replace HB := bh HB hb; have NB155_162 := nbl BK155 hg; have NB162_155 := nbg BK155 hg; replace BK155 := bb BK155 hb; have NB156_162 := nbl BK156 hg; have NB162_156 := nbg BK156 hg; replace BK156 := bb BK156 hb; have NB157_162 := nbl BK157 hg; have NB162_157 := nbg BK157 hg; replace BK157 := bb BK157 hb; clear hb hbox hg; have hnb56 := NB162_155.out; have hnc56 := NB155_162.out; have hnb57 := NB162_156.out; have hnc57 := NB156_162.out; have hnb58 := NB162_157.out; have hnc58 := NB157_162.out; obtain ⟨hcz59_0, hcz59_1, hcz59_2⟩ := cz3 BK162; obtain ⟨hfz59_0, hfz59_1, hfz59_2⟩ := fz3 BK162)))
      go_ret2
      exact ⟨_, by first | rfl | (simp [errW_none, errW_some] <;> rfl) | (simp [*, errW_none, errW_some] <;> rfl), by first | exact Kd.R_nil _ _ _ _ _ | exact Kd.N_nil _ _ _ _ _ | exact Kd.V_nil _ _ _ _ _ | exact Kd.Q_nil _ _ _ _ _ | exact Kd.S_nil _ _ _ _ _, by repeat (first | (with_reducible first | exact HB.out | apply below_alloc | apply pw_below_drewN | apply below_drew1 | refine below_set ?_ GE155.out | refine below_set ?_ GE156.out | refine below_set ?_ GE157.out | refine below_set ?_ GE162.out) | exact HB.out)⟩
    ·replace c18 := Bool.eq_false_iff.mpr c18
     subst c18
     have H1 : (some (x8_1, 0)) = some (r1, r2) := by rw [if_neg (show ¬ (false = true) by decide)] at H; exact H
     clear H
     have H := H1
     clear H1
     simp only [Option.some.injEq, Prod.mk.injEq] at H
     obtain ⟨rfl, rfl⟩ := H
     go_wp2
     repeat (go_quiet (fail); try go_wp2)
     go_ret2
     exact ⟨_, by first | rfl | (simp [errW_none, errW_some] <;> rfl) | (simp [*, errW_none, errW_some] <;> rfl), by (with_reducible repeat (first | apply Kd.R_alloc | apply Kd.R_drewN | apply Kd.R_drew)); exact HO_8.out, by repeat (first | (with_reducible first | exact HB.out | apply below_alloc | apply pw_below_drewN | apply below_drew1 | refine below_set ?_ GE155.out | refine below_set ?_ GE156.out | refine below_set ?_ GE157.out) | exact HB.out)⟩

/-! ### stickfulref14_Same: function 11 -/
def stickfulref14_Same.l0 : Nat → List (S35) → List (S35) → Int → Option (Bool)
 | 0, _, _, _ => none
 | k + 1, x0, x1, x5 => if x5 < (x0.length : Int) then (if 0 ≤ x5 then (if x5 < (x1.length : Int) then (if (!(((rd_T35 x0 x5).f0) == ((rd_T35 x1 x5).f0)) || (!(((rd_T35 x0 x5).f1) == ((rd_T35 x1 x5).f1)) || (!(((rd_T35 x0 x5).f2) == ((rd_T35 x1 x5).f2))))) = true then (some false) else (stickfulref14_Same.l0 k x0 x1 (wrap64 (x5 + 1)))) else (none)) else (none)) else (some true)
def stickfulref14_Same.f (k : Nat) (l0 : List (S35)) (l1 : List (S35)) : Option (Bool) := if (l0.length : Int) = (l1.length : Int) then (stickfulref14_Same.l0 k l0 l1 0) else (some false)
theorem stickfulref14_Same.mono_l : ∀ k, (∀ y0 y1 y2, LeO (stickfulref14_Same.l0 k y0 y1 y2) (stickfulref14_Same.l0 (k + 1) y0 y1 y2))
 | 0 => fun _ _ _ r h => by simp [stickfulref14_Same.l0] at h
 | k + 1 => by
  have ih0 := stickfulref14_Same.mono_l k
  ·intro y0 y1 y2
   unfold stickfulref14_Same.l0
   repeat' first
   | (with_reducible exact ih0 _ _ _)
   | (with_reducible exact LeO.refl _)
   | (with_reducible exact LeO.none _)
   | (with_reducible refine LeO.ite ?_ ?_)
   | (with_reducible refine LeO.bind ?_ (fun _ => ?_))
   | exact ih0 _ _ _
   | exact LeO.none _
   | refine LeO.ite ?_ ?_
   | refine LeO.bind ?_ (fun _ => ?_)
theorem stickfulref14_Same.mono : ∀ a0 a1 k, LeO (stickfulref14_Same.f k a0 a1) (stickfulref14_Same.f (k + 1) a0 a1) := by
 intro a0 a1 k
 have ih0 := stickfulref14_Same.mono_l k
 unfold stickfulref14_Same.f
 repeat' first
   | (with_reducible exact ih0 _ _ _)
   | (with_reducible exact LeO.refl _)
   | (with_reducible exact LeO.none _)
   | (with_reducible refine LeO.ite ?_ ?_)
   | (with_reducible refine LeO.bind ?_ (fun _ => ?_))
   | exact ih0 _ _ _
   | exact LeO.none _
   | refine LeO.ite ?_ ?_
   | refine LeO.bind ?_ (fun _ => ?_)
set_option maxHeartbeats 8000000 in
set_option maxRecDepth 100000 in
theorem stickfulref14_Same.calls (k : Nat) (A0 : Option Addr) (c0 : Nat) (l0 : List (S35)) (A1 : Option Addr) (c1 : Nat) (l1 : List (S35)) (r : Bool) (w : World) (hr0 : Kd.C k35 w A0 l0.length l0) (hc0 : l0.length ≤ c0) (hr1 : Kd.C k35 w A1 l1.length l1) (hc1 : l1.length ≤ c1) (h : stickfulref14_Same.f k l0 l1 = some r) :
  Calls Try.prog 11 #[.slice A0 l0.length c0, .slice A1 l1.length c1] w fun e w' => e = .returned (.bool r) ∧ Drawn0 w w' := by
 have hu35 := Try.underlying35
 have HR0 := Aside0.mk hr0
 have HC0 := Aside0.mk hc0
 clear hr0 hc0
 have HR1 := Aside0.mk hr1
 have HC1 := Aside0.mk hc1
 clear hr1 hc1
 have H : (if (l0.length : Int) = (l1.length : Int) then (stickfulref14_Same.l0 k l0 l1 0) else (some false)) = some r := h
 clear h
 by_cases c3 : (l0.length : Int) = (l1.length : Int)
 ·rw [if_pos c3] at H
  have c3b0 : ((l0.length : Int) == (l1.length : Int)) = true := beq_iff_eq.mpr c3
  have c3b1 : ((l0.length : Int) != (l1.length : Int)) = false := bne_eq_false_iff_eq.mpr c3
  have c3b2 : (l0.length == l1.length) = true := by first | simpa using c3 | (simp at c3 ⊢; omega)
  clear c3
  have H' := Aside0.mk H
  clear H
  go_enter Try.func11, Try.ntmps11
  go_wp2
  repeat (go_quiet (fail); try go_wp2)
  go_loopg [5] k (fun kq v5 w' => ∃ (x5_1 : Int), v5 = .int .i64 x5_1 ∧ Aside0 (stickfulref14_Same.l0 kq l0 l1 x5_1 = some r) ∧ Aside0 (kq ≤ k) ∧ Drawn0 w w')
  case atStart => exact ⟨(0), (by first | rfl | (simp; done) | (simp [*]; done)), H', ⟨Nat.le_refl _⟩, by repeat (first | exact Drawn0.refl _ | apply Drawn0.step)⟩
  case round =>
   clear H'
   try clear c1
   try clear p2
   try clear c3
   try clear c3b0
   try clear c3b1
   try clear c3b2
   obtain ⟨x5_1, rfl, HA, HK1, ⟨m1, rfl⟩⟩ := hrel
   cases gk with
   | zero => exact absurd HA.out (by simp [stickfulref14_Same.l0])
   | succ k1 =>
    have H := HA.out
    clear HA
    simp only [stickfulref14_Same.l0] at H
    by_cases c4 : x5_1 < (l0.length : Int)
    ·rw [if_pos c4] at H
     have c4b0 : decide (x5_1 < (l0.length : Int)) = true := decide_eq_true c4
     clear c4
     by_cases c5 : 0 ≤ x5_1
     ·rw [if_pos c5] at H
      have c5b0 : decide (0 ≤ x5_1) = true := decide_eq_true c5
      clear c5
      by_cases c6 : x5_1 < (l1.length : Int)
      ·rw [if_pos c6] at H
       have c6b0 : decide (x5_1 < (l1.length : Int)) = true := decide_eq_true c6
       clear c6
       by_cases c7 : (!(((rd_T35 l0 x5_1).f0) == ((rd_T35 l1 x5_1).f0)) || (!(((rd_T35 l0 x5_1).f1) == ((rd_T35 l1 x5_1).f1)) || (!(((rd_T35 l0 x5_1).f2) == ((rd_T35 l1 x5_1).f2))))) = true
       ·rw [if_pos c7] at H
        have c7b0 : (!(((rd_T35 l0 x5_1).f0) == ((rd_T35 l1 x5_1).f0)) || (!(((rd_T35 l0 x5_1).f1) == ((rd_T35 l1 x5_1).f1)) || (!(((rd_T35 l0 x5_1).f2) == ((rd_T35 l1 x5_1).f2))))) = true := c7
        clear c7
        obtain rfl := Option.some.inj H
        have p166 : 0 ≤ (x5_1 : Int) := of_decide_eq_true (by first | (with_reducible assumption) | assumption)
        have q166 : x5_1 < (l0.length : Int) := of_decide_eq_true (by first | (with_reducible assumption) | assumption)
        obtain ⟨ad166, e166, hx166_0, hx166_1, hx166_2⟩ := at_T35 HR0.out x5_1 p166 q166
        cases e166
        replace p166 := eq_true p166
        replace q166 := eq_true q166
        have p167 : 0 ≤ (x5_1 : Int) := of_decide_eq_true (by first | (with_reducible assumption) | assumption)
        have q167 : x5_1 < (l1.length : Int) := of_decide_eq_true (by first | (with_reducible assumption) | assumption)
        obtain ⟨ad167, e167, hx167_0, hx167_1, hx167_2⟩ := at_T35 HR1.out x5_1 p167 q167
        cases e167
        replace p167 := eq_true p167
        replace q167 := eq_true q167
        go_wp2
        repeat (go_quiet (fail); try go_wp2)
        go_ret
        exact ⟨by first | rfl | (simp; done) | (simp [*]; done), by repeat (first | exact Drawn0.refl _ | apply Drawn0.step)⟩
       ·rw [if_neg c7] at H
        have c7b0 : (!(((rd_T35 l0 x5_1).f0) == ((rd_T35 l1 x5_1).f0)) || (!(((rd_T35 l0 x5_1).f1) == ((rd_T35 l1 x5_1).f1)) || (!(((rd_T35 l0 x5_1).f2) == ((rd_T35 l1 x5_1).f2))))) = false := by simpa using c7
        clear c7
        have H' := Aside0.mk H
        clear H
        have p166 : 0 ≤ (x5_1 : Int) := of_decide_eq_true (by first | (with_reducible assumption) | assumption)
        have q166 : x5_1 < (l0.length : Int) := of_decide_eq_true (by first | (with_reducible assumption) | assumption)
        obtain ⟨ad166, e166, hx166_0, hx166_1, hx166_2⟩ := at_T35 HR0.out x5_1 p166 q166
        cases e166
        replace p166 := eq_true p166
        replace q166 := eq_true q166
        have p167 : 0 ≤ (x5_1 : Int) := of_decide_eq_true (by first | (with_reducible assumption) | assumption)
        have q167 : x5_1 < (l1.length : Int) := of_decide_eq_true (by first | (with_reducible assumption) | assumption)
        obtain ⟨ad167, e167, hx167_0, hx167_1, hx167_2⟩ := at_T35 HR1.out x5_1 p167 q167
        cases e167
        replace p167 := eq_true p167
        replace q167 := eq_true q167
        go_wp2
        repeat (go_quiet (fail); try go_wp2)
        go_roundg k1
        case measure => have := HK1.out; omega
        case rel => exact ⟨(wrap64 (x5_1 + 1)), (by first | rfl | (simp; done) | (simp [*]; done)), H', ⟨by have := HK1.out; omega⟩, by repeat (first | exact Drawn0.refl _ | apply Drawn0.step)⟩
      ·rw [if_neg c6] at H
       exact absurd H (by simp)
     ·rw [if_neg c5] at H
      exact absurd H (by simp)
    ·rw [if_neg c4] at H
     have c4b0 : decide (x5_1 < (l0.length : Int)) = false := decide_eq_false c4
     clear c4
     obtain rfl := Option.some.inj H
     go_wp2
     repeat (go_quiet (fail); try go_wp2)
     go_ret
     exact ⟨by first | rfl | (simp; done) | (simp [*]; done), by repeat (first | exact Drawn0.refl _ | apply Drawn0.step)⟩
 ·rw [if_neg c3] at H
  have c3b0 : ((l0.length : Int) == (l1.length : Int)) = false := beq_eq_false_iff_ne.mpr c3
  have c3b1 : ((l0.length : Int) != (l1.length : Int)) = true := bne_iff_ne.mpr c3
  have c3b2 : (l0.length == l1.length) = false := by first | simpa using c3 | (simp at c3 ⊢; omega)
  obtain rfl := Option.some.inj H
  go_enter Try.func11, Try.ntmps11
  go_wp2
  repeat (go_quiet (fail); try go_wp2)
  go_ret
  exact ⟨by first | rfl | (simp; done) | (simp [*]; done), by repeat (first | exact Drawn0.refl _ | apply Drawn0.step)⟩

end Go.Proofs.Ytagdaniakfpnfaa.HFillC
