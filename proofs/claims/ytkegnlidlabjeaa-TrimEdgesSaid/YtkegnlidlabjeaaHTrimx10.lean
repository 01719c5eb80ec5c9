-- Written by this claim's own program over the kit's print.
import Derived.Test.YtkegnlidlabjeaaHTrimx0
import Derived.Test.YtkegnlidlabjeaaHand3
import Derived.Test.YtkegnlidlabjeaaHand4
import Derived.StillTailTactics
import Derived.Laws.Externs
import Derived.BigFrameIn
import Derived.Lib.Hide
import Derived.Test.YtkegnlidlabjeaaHand6
import Derived.Sort.LoopGhostIn
import Derived.BigQuiet
namespace Go.Proofs.Ytkegnlidlabjeaa.HTrim
open Go.RowKit Go.Proofs.YtkegnlidlabjeaaW.PrintWords Go.Proofs.YtkegnlidlabjeaaW.PrintLast Go.Proofs.YtkegnlidlabjeaaW.PrintMore
attribute [local go_sem] max2_int min2_int max_two min_two max_three min_three max_four min_four   -- for this text's walks alone
set_option linter.unusedVariables false
set_option linter.unusedSimpArgs false

-- BY HAND: function 33
section
open Go Go.Proofs.Ytkegnlidlabjeaa.Hand
theorem czR {w : World} {g : Nat} {t : TypeId} {cs : Array Value} {v0 v1 v2 v3 v4 v5 : Value} (h : Aside0 (w.heap[g]? = some (.cells cs t (0, 0)))) (e : cs.toList.take 6 = [v0, v1, v2, v3, v4, v5] := by rfl) : w.cell? ⟨g, 0, none⟩ = some v0 ∧ w.cell? ⟨g, 1, none⟩ = some v1 ∧ w.cell? ⟨g, 2, none⟩ = some v2 ∧ w.cell? ⟨g, 3, none⟩ = some v3 ∧ w.cell? ⟨g, 4, none⟩ = some v4 ∧ w.cell? ⟨g, 5, none⟩ = some v5 :=
  ⟨cz_ h e 0 rfl, cz_ h e 1 rfl, cz_ h e 2 rfl, cz_ h e 3 rfl, cz_ h e 4 rfl, cz_ h e 5 rfl⟩
theorem fzR {w : World} {g : Nat} {t : TypeId} {cs : Array Value} (h : Aside0 (w.heap[g]? = some (.cells cs t (0, 0)))) : w.frozen? ⟨g, 0, none⟩ = false ∧ w.frozen? ⟨g, 1, none⟩ = false ∧ w.frozen? ⟨g, 2, none⟩ = false ∧ w.frozen? ⟨g, 3, none⟩ = false ∧ w.frozen? ⟨g, 4, none⟩ = false ∧ w.frozen? ⟨g, 5, none⟩ = false :=
  ⟨blk_frozen h.out 0, blk_frozen h.out 1, blk_frozen h.out 2, blk_frozen h.out 3, blk_frozen h.out 4, blk_frozen h.out 5⟩
/-! ### stickfullaw13_row: function 33 -/
def stickfullaw13_row.l0 : Nat → List Int → List (S35) → Int → Option ((List (S35)))
  | 0, _, _, _ => none
  | k + 1, x0, x3, x4 => if x4 < (x0.length : Int) then (if 0 ≤ x4 then (if (rd x0 x4) ≥ 7 then (if x3.length < 3518437208883 then (stickfullaw13_row.l0 k x0 (x3 ++ [(⟨rd x0 x4, 0, 0, 2, false, false⟩ : S35)]) (wrap64 (x4 + 1))) else (none)) else (if x3.length < 3518437208883 then (stickfullaw13_row.l0 k x0 (x3 ++ [(⟨rd x0 x4, 0, 0, 5, false, false⟩ : S35)]) (wrap64 (x4 + 1))) else (none))) else (none)) else (some x3)
def stickfullaw13_row.f (k : Nat) (l0 : List Int) : Option ((List (S35))) := stickfullaw13_row.l0 k l0 ([] : List (S35)) 0
theorem stickfullaw13_row.mono_l : ∀ k, (∀ y0 y1 y2, LeO (stickfullaw13_row.l0 k y0 y1 y2) (stickfullaw13_row.l0 (k + 1) y0 y1 y2))
  | 0 => fun _ _ _ r h => by simp [stickfullaw13_row.l0] at h
  | k + 1 => by
    have ih0 := stickfullaw13_row.mono_l k
    · intro y0 y1 y2
      unfold stickfullaw13_row.l0
      repeat' first
      | (with_reducible exact ih0 _ _ _)
      | (with_reducible exact LeO.refl _)
      | (with_reducible exact LeO.none _)
      | (with_reducible refine LeO.ite ?_ ?_)
      | (with_reducible refine LeO.bind ?_ (fun _ => ?_))
      | exact ih0 _ _ _
      | exact LeO.none _
      | refine LeO.ite ?_ ?_
      | refine LeO.bind ?_ (fun _ => ?_)
theorem stickfullaw13_row.mono : ∀ a0 k, LeO (stickfullaw13_row.f k a0) (stickfullaw13_row.f (k + 1) a0) := by
  intro a0 k
  have ih0 := stickfullaw13_row.mono_l k
  unfold stickfullaw13_row.f
  repeat' first
      | (with_reducible exact ih0 _ _ _)
      | (with_reducible exact LeO.refl _)
      | (with_reducible exact LeO.none _)
      | (with_reducible refine LeO.ite ?_ ?_)
      | (with_reducible refine LeO.bind ?_ (fun _ => ?_))
      | exact ih0 _ _ _
      | exact LeO.none _
      | refine LeO.ite ?_ ?_
      | refine LeO.bind ?_ (fun _ => ?_)
set_option maxHeartbeats 8000000 in
set_option maxRecDepth 100000 in
theorem stickfullaw13_row.calls (k : Nat) (A0 : Option Addr) (c0 : Nat) (l0 : List Int) (r : List (S35)) (w : World) (hr0 : Kd.C (Kd.int .u8) w A0 l0.length l0) (hc0 : l0.length ≤ c0) (h : stickfullaw13_row.f k l0 = some r) :
    Calls Try.prog 33 #[.slice A0 l0.length c0] w fun e w' => ∃ v0_ : Value, e = .returned (v0_) ∧ Kd.R k35 35 w' w.heap.size (fun _ => True) v0_ r ∧ Below w.heap.size w w' := by
  have hu35 := Try.underlying35
  have HR0 := Aside0.mk hr0
  have HC0 := Aside0.mk hc0
  clear hr0 hc0
  have HB := Aside0.mk (Below.refl w.heap.size w)
  have H : (stickfullaw13_row.l0 k l0 ([] : List (S35)) 0) = some r := h
  clear h
  have H' := Aside0.mk H
  clear H
  go_enter Try.func33, Try.ntmps33
  go_wp2
  go_loopg [3, 4] k (fun kq v3 v4 w' => ∃ (x3_1 : List (S35)) (x4_1 : Int), v4 = .int .i64 x4_1 ∧ Aside0 (stickfullaw13_row.l0 kq l0 x3_1 x4_1 = some r) ∧ Aside0 (kq ≤ k) ∧ Aside0 (Kd.R k35 35 w' w.heap.size (fun _ => True) v3 x3_1) ∧ Aside0 (Below w.heap.size w w'))
  case atStart => exact ⟨(([] : List (S35))), (0), (by first | rfl | (simp; done) | (simp [*]; done)), H', ⟨Nat.le_refl _⟩, ⟨by first | exact Kd.R_nil _ _ _ _ _ | exact Kd.N_nil _ _ _ _ _ | exact Kd.V_nil _ _ _ _ _ | exact Kd.Q_nil _ _ _ _ _ | exact Kd.S_nil _ _ _ _ _⟩, ⟨by repeat (first | (with_reducible first | exact HB.out | apply below_alloc | apply pw_below_drewN | apply below_drew1) | exact HB.out)⟩⟩
  case round =>
    clear H'
    obtain ⟨x3_1, x4_1, rfl, HA, HK1, HO_3, HB⟩ := hrel
    cases gk with
    | zero => exact absurd HA.out (by simp [stickfullaw13_row.l0])
    | succ k1 =>
      have H := HA.out
      clear HA
      simp only [stickfullaw13_row.l0] at H
      by_cases c2 : x4_1 < (l0.length : Int)
      · rw [if_pos c2] at H
        have c2b0 : decide (x4_1 < (l0.length : Int)) = true := decide_eq_true c2
        clear c2
        by_cases c3 : 0 ≤ x4_1
        · rw [if_pos c3] at H
          have c3b0 : decide (0 ≤ x4_1) = true := decide_eq_true c3
          clear c3
          by_cases c4 : (rd l0 x4_1) ≥ 7
          · rw [if_pos c4] at H
            have c4b0 : decide (7 ≤ (rd l0 x4_1)) = true := decide_eq_true c4
            clear c4
            by_cases c5 : x3_1.length < 3518437208883
            · rw [if_pos c5] at H
              have LMc5 := Aside0.mk c5
              clear c5
              obtain ⟨y146, hy146⟩ : ∃ y_ : List (S35), y_ = (x3_1 ++ [(⟨rd l0 x4_1, 0, 0, 2, false, false⟩ : S35)]) := ⟨_, rfl⟩
              replace H : (stickfullaw13_row.l0 k1 l0 y146 (wrap64 (x4_1 + 1))) = some r := by first | (rw [hy146]; with_reducible exact H) | (have H2_ := (Option.bind_some _ _).symm.trans H; rw [hy146]; with_reducible exact H2_) | (have H2_ := (Option.bind_some _ _).symm.trans H; with_reducible exact H2_) | with_reducible exact H | (rw [hy146]; exact H) | exact H
              have Ny146 := Aside0.mk hy146
              clear hy146
              have H' := Aside0.mk H
              clear H
              have p144 : 0 ≤ (x4_1 : Int) := of_decide_eq_true (by first | (with_reducible assumption) | assumption)
              have q144 : x4_1 < (l0.length : Int) := of_decide_eq_true (by first | (with_reducible assumption) | assumption)
              obtain ⟨ad144, e144, hx144_0⟩ := Kd.at_int HR0.out x4_1 p144 q144
              cases e144
              replace hx144_0 := (HB.out.cell (World.block_lt_of_cell? w _ hx144_0)).trans hx144_0
              replace p144 := eq_true p144
              replace q144 := eq_true q144
              go_wp2_with (first | ((with_reducible refine gate_dst (N := 5) rfl ?_); refine box_event ?hg (N := 5) ?hd (cs := #[.int .u8 0, .int .i64 0, .int .i64 0, .int .i64 0, .bool false, .bool false]) (t := 35) ?hr ?_; (case hd => rfl); (case hg => rfl); (case hr => first | (go_simp; done) | (go_simp; rfl)); intro gb145 hg w6 hbox hb; replace HO_3 := Aside0.mk (Kd.R_below (Kd.R_elderB (rx HO_3) gb145 (Nat.le_of_eq hg.symm)) hb); have BK145 := Aside0.mk (hbox); have GW145 := bge HB hg; have GE145 := bge HB hg; replace HB := bh HB hb; clear hb hbox hg; obtain ⟨hcz7_0, hcz7_1, hcz7_2, hcz7_3, hcz7_4, hcz7_5⟩ := czR BK145; obtain ⟨hfz7_0, hfz7_1, hfz7_2, hfz7_3, hfz7_4, hfz7_5⟩ := fzR BK145) | ((with_reducible refine gate_store (t := 35) (p := 5) (v := .tmp 16) rfl ?_); refine Aside0.out ?_))
              refine Aside0.mk ?_
              refine Go.Proofs.Ytkegnlidlabjeaa.Hand.store_row_event rfl 35 (.tmp 5) (.tmp 16) rfl rfl gb145 #[.int .u8 (rd l0 x4_1), .int .i64 0, .int .i64 0, .int .i64 5, .bool false, .bool false] rfl rfl 35 _ BK145.out (by kernel_rfl) rfl (by simp [Value.oneCell']) ?_
              intro ws hs hk hb
              replace HO_3 := Aside0.mk (Kd.R_mono (Kd.R_keep HO_3.out hk (fun _ h => h.2)) (ok' := fun k => True ∧ k ≠ gb145) (fun _ h => h))
              replace BK145 := Aside0.mk hs; replace HB := Aside0.mk (hb _ _ GE145.out HB.out); clear hs hb hk hcz7_0 hfz7_0 hcz7_1 hfz7_1 hcz7_2 hfz7_2 hcz7_3 hfz7_3 hcz7_4 hfz7_4 hcz7_5 hfz7_5
              obtain ⟨hcz7_0, hcz7_1, hcz7_2, hcz7_3, hcz7_4, hcz7_5⟩ := czR BK145
              obtain ⟨hfz7_0, hfz7_1, hfz7_2, hfz7_3, hfz7_4, hfz7_5⟩ := fzR BK145
              go_wp2_with (first | ((with_reducible refine gate_builtin (b := .append) (xs := #[.tmp 21, .tmp 23]) rfl ?_); at_builtin; refine Kd.R_append k35 (w0 := w) w.heap.size rfl (.tmp 21) (.tmp 23) 22 35 (.agg #[(.int .u8 0), (.int .i64 0), (.int .i64 0), (.int .i64 0), (.bool false), (.bool false)]) 40 rfl Try.underlying22 info35 rfl (by decide) (by omega) u3 x3_1 (⟨rd l0 x4_1, 0, 0, 2, false, false⟩ : S35) [.int .u8 (rd l0 x4_1), .int .i64 0, .int .i64 0, .int .i64 2, .bool false, .bool false] (fun k_ => k_ ≠ gb145) (fun _ => False) rfl (by first | (go_simp; done) | (go_simp; rfl)) ?aP (fun _ hk => hk.elim) ?aF ?aO ?aB ?aS ?aL ?_; (case aP => exact k35_mkM _ _ _ (⟨rd l0 x4_1, 0, 0, 2, false, false⟩ : S35)); (case aB => exact (bw HB)); (case aF => exact (fun k_ hk => Kd.freshB (o := .cells #[.int .u8 (rd l0 x4_1), .int .i64 0, .int .i64 0, .int .i64 2, .bool false, .bool false] 35 (0, 0)) (bp BK145) k_ hk)); (case aO => exact (by (with_reducible repeat (first | apply Kd.R_alloc | apply Kd.R_drewN | apply Kd.R_drew)); exact Kd.R_mono (Kd.R_far (p := ⟨gb145, 3, none⟩) (Kd.R_mono HO_3.out (fun k_ hk => (⟨hk, hk.2⟩ : _ ∧ k_ ≠ gb145))) (fun _ hk => hk.2) (.int .i64 2)) (fun _ hk => hk.1.2))); (case aS => exact (below_size (bw HB))); (case aL => have := LMc5.out; omega); intro v147 w8 ho hb hg hat; rw [← Ny146.out] at ho; replace BK145 := Aside0.mk (blk_grown (o := .cells #[.int .u8 (rd l0 x4_1), .int .i64 0, .int .i64 0, .int .i64 2, .bool false, .bool false] 35 (0, 0)) (bp BK145) hg (Kd.R_away HO_3.out (fun _ hk => hk.2))); replace HB := Aside0.mk (hb); have HO148 := Aside0.mk (ho); clear HO_3; clear ho hb hg hat))
              go_roundg k1
              case measure => have := HK1.out; omega
              case rel => exact ⟨(y146), (wrap64 (x4_1 + 1)), (by first | rfl | (simp; done) | (simp [*]; done)), H', ⟨by have := HK1.out; omega⟩, ⟨by (with_reducible repeat (first | apply Kd.R_alloc | apply Kd.R_drewN | apply Kd.R_drew)); exact Kd.R_mono HO148.out (fun _ hk => trivial)⟩, ⟨by repeat (first | (with_reducible first | exact HB.out | apply below_alloc | apply pw_below_drewN | apply below_drew1 | refine below_set ?_ GE145.out) | exact HB.out)⟩⟩
            · rw [if_neg c5] at H
              exact absurd H (by simp)
          · rw [if_neg c4] at H
            have c4b0 : decide (7 ≤ (rd l0 x4_1)) = false := decide_eq_false c4
            clear c4
            by_cases c9 : x3_1.length < 3518437208883
            · rw [if_pos c9] at H
              have LMc9 := Aside0.mk c9
              clear c9
              obtain ⟨y149, hy149⟩ : ∃ y_ : List (S35), y_ = (x3_1 ++ [(⟨rd l0 x4_1, 0, 0, 5, false, false⟩ : S35)]) := ⟨_, rfl⟩
              replace H : (stickfullaw13_row.l0 k1 l0 y149 (wrap64 (x4_1 + 1))) = some r := by first | (rw [hy149]; with_reducible exact H) | (have H2_ := (Option.bind_some _ _).symm.trans H; rw [hy149]; with_reducible exact H2_) | (have H2_ := (Option.bind_some _ _).symm.trans H; with_reducible exact H2_) | with_reducible exact H | (rw [hy149]; exact H) | exact H
              have Ny149 := Aside0.mk hy149
              clear hy149
              have H' := Aside0.mk H
              clear H
              have p144 : 0 ≤ (x4_1 : Int) := of_decide_eq_true (by first | (with_reducible assumption) | assumption)
              have q144 : x4_1 < (l0.length : Int) := of_decide_eq_true (by first | (with_reducible assumption) | assumption)
              obtain ⟨ad144, e144, hx144_0⟩ := Kd.at_int HR0.out x4_1 p144 q144
              cases e144
              replace hx144_0 := (HB.out.cell (World.block_lt_of_cell? w _ hx144_0)).trans hx144_0
              replace p144 := eq_true p144
              replace q144 := eq_true q144
              go_wp2_with (first | ((with_reducible refine gate_dst (N := 5) rfl ?_); refine box_event ?hg (N := 5) ?hd (cs := #[.int .u8 0, .int .i64 0, .int .i64 0, .int .i64 0, .bool false, .bool false]) (t := 35) ?hr ?_; (case hd => rfl); (case hg => rfl); (case hr => first | (go_simp; done) | (go_simp; rfl)); intro gb145 hg w10 hbox hb; replace HO_3 := Aside0.mk (Kd.R_below (Kd.R_elderB (rx HO_3) gb145 (Nat.le_of_eq hg.symm)) hb); have BK145 := Aside0.mk (hbox); have GW145 := bge HB hg; have GE145 := bge HB hg; replace HB := bh HB hb; clear hb hbox hg; obtain ⟨hcz11_0, hcz11_1, hcz11_2, hcz11_3, hcz11_4, hcz11_5⟩ := czR BK145; obtain ⟨hfz11_0, hfz11_1, hfz11_2, hfz11_3, hfz11_4, hfz11_5⟩ := fzR BK145) | ((with_reducible refine gate_store (t := 35) (p := 5) (v := .tmp 16) rfl ?_); refine Aside0.out ?_))
              refine Aside0.mk ?_
              refine Go.Proofs.Ytkegnlidlabjeaa.Hand.store_row_event rfl 35 (.tmp 5) (.tmp 16) rfl rfl gb145 #[.int .u8 (rd l0 x4_1), .int .i64 0, .int .i64 0, .int .i64 5, .bool false, .bool false] rfl rfl 35 _ BK145.out (by kernel_rfl) rfl (by simp [Value.oneCell']) ?_
              intro ws hs hk hb
              replace HO_3 := Aside0.mk (Kd.R_mono (Kd.R_keep HO_3.out hk (fun _ h => h.2)) (ok' := fun k => True ∧ k ≠ gb145) (fun _ h => h))
              replace BK145 := Aside0.mk hs; replace HB := Aside0.mk (hb _ _ GE145.out HB.out); clear hs hb hk hcz11_0 hfz11_0 hcz11_1 hfz11_1 hcz11_2 hfz11_2 hcz11_3 hfz11_3 hcz11_4 hfz11_4 hcz11_5 hfz11_5
              obtain ⟨hcz11_0, hcz11_1, hcz11_2, hcz11_3, hcz11_4, hcz11_5⟩ := czR BK145
              obtain ⟨hfz11_0, hfz11_1, hfz11_2, hfz11_3, hfz11_4, hfz11_5⟩ := fzR BK145
              go_wp2_with (first | ((with_reducible refine gate_builtin (b := .append) (xs := #[.tmp 21, .tmp 23]) rfl ?_); at_builtin; refine Kd.R_append k35 (w0 := w) w.heap.size rfl (.tmp 21) (.tmp 23) 22 35 (.agg #[(.int .u8 0), (.int .i64 0), (.int .i64 0), (.int .i64 0), (.bool false), (.bool false)]) 40 rfl Try.underlying22 info35 rfl (by decide) (by omega) u3 x3_1 (⟨rd l0 x4_1, 0, 0, 5, false, false⟩ : S35) [.int .u8 (rd l0 x4_1), .int .i64 0, .int .i64 0, .int .i64 5, .bool false, .bool false] (fun k_ => k_ ≠ gb145) (fun _ => False) rfl (by first | (go_simp; done) | (go_simp; rfl)) ?aP (fun _ hk => hk.elim) ?aF ?aO ?aB ?aS ?aL ?_; (case aP => exact k35_mkM _ _ _ (⟨rd l0 x4_1, 0, 0, 5, false, false⟩ : S35)); (case aB => exact (bw HB)); (case aF => exact (fun k_ hk => Kd.freshB (o := .cells #[.int .u8 (rd l0 x4_1), .int .i64 0, .int .i64 0, .int .i64 5, .bool false, .bool false] 35 (0, 0)) (bp BK145) k_ hk)); (case aO => exact (by (with_reducible repeat (first | apply Kd.R_alloc | apply Kd.R_drewN | apply Kd.R_drew)); exact Kd.R_mono HO_3.out (fun _ hk => hk.2))); (case aS => exact (below_size (bw HB))); (case aL => have := LMc9.out; omega); intro v150 w12 ho hb hg hat; rw [← Ny149.out] at ho; replace BK145 := Aside0.mk (blk_grown (o := .cells #[.int .u8 (rd l0 x4_1), .int .i64 0, .int .i64 0, .int .i64 5, .bool false, .bool false] 35 (0, 0)) (bp BK145) hg (Kd.R_away HO_3.out (fun _ hk => hk.2))); replace HB := Aside0.mk (hb); have HO151 := Aside0.mk (ho); clear HO_3; clear ho hb hg hat))
              go_roundg k1
              case measure => have := HK1.out; omega
              case rel => exact ⟨(y149), (wrap64 (x4_1 + 1)), (by first | rfl | (simp; done) | (simp [*]; done)), H', ⟨by have := HK1.out; omega⟩, ⟨by (with_reducible repeat (first | apply Kd.R_alloc | apply Kd.R_drewN | apply Kd.R_drew)); exact Kd.R_mono HO151.out (fun _ hk => trivial)⟩, ⟨by repeat (first | (with_reducible first | exact HB.out | apply below_alloc | apply pw_below_drewN | apply below_drew1 | refine below_set ?_ GE145.out) | exact HB.out)⟩⟩
            · rw [if_neg c9] at H
              exact absurd H (by simp)
        · rw [if_neg c3] at H
          exact absurd H (by simp)
      · rw [if_neg c2] at H
        have c2b0 : decide (x4_1 < (l0.length : Int)) = false := decide_eq_false c2
        clear c2
        obtain rfl := Option.some.inj H
        go_wp2
        go_ret
        exact ⟨_, by first | rfl | (simp [errW_none, errW_some] <;> rfl) | (simp [*, errW_none, errW_some] <;> rfl), by (with_reducible repeat (first | apply Kd.R_alloc | apply Kd.R_drewN | apply Kd.R_drew)); exact HO_3.out, by repeat (first | (with_reducible first | exact HB.out | apply below_alloc | apply pw_below_drewN | apply below_drew1) | exact HB.out)⟩

end

end Go.Proofs.Ytkegnlidlabjeaa.HTrim
