-- Written by this claim's own program over the kit's print.
import Derived.Test.YtagdaniakfpnfaaHFillb
import Derived.Test.YtagdaniakfpnfaaHFillx0
import Derived.Test.YtagdaniakfpnfaaHFillx13
import Derived.Test.YtagdaniakfpnfaaHFillx14
import Derived.Test.YtagdaniakfpnfaaHFillx15
import Derived.Test.YtagdaniakfpnfaaHand3
import Derived.Test.YtagdaniakfpnfaaHand4
import Derived.StillTailTactics
import Derived.Laws.Externs
import Derived.BigFrameIn
import Derived.Lib.Hide
import Derived.Test.YtagdaniakfpnfaaHand9
import Derived.Sort.LoopGhostIn
import Derived.BigQuiet
namespace Go.Proofs.Ytagdaniakfpnfaa.HFill
open Go.RowKit Go.Proofs.YtagdaniakfpnfaaW.PrintWords Go.Proofs.YtagdaniakfpnfaaW.PrintLast Go.Proofs.YtagdaniakfpnfaaW.PrintMore Go.Proofs.Ytagdaniakfpnfaa.Hand
attribute [local go_sem] max2_int min2_int max_two min_two max_three min_three max_four min_four   -- for this text's walks alone
set_option linter.unusedVariables false
set_option linter.unusedSimpArgs false

/-! ### stickfullaw14_FillForced: function 6 -/
mutual
def stickfullaw14_FillForced.l0 : Nat → List (S44) → List (S44) → Int → Int → Int → Int → Int → Int → Option (Bool)
  | 0, _, _, _, _, _, _, _, _ => none
  | k + 1, x0, x7, x8, x9, x487000, x487001, x488000, x488001 => if x9 < (x7.length : Int) then (if 0 ≤ x9 then ((some (x7.set (x9 : Int).toNat (⟨(rd_T44 x7 x9).f0, (rd_T44 x7 x9).f1, (rd_T44 x7 x9).f2, (rd_T44 x7 x9).f3, false, (rd_T44 x7 x9).f5⟩ : S44) : List (S44))).bind fun y495 => ((some (y495.set (x9 : Int).toNat (⟨(rd_T44 y495 x9).f0, (rd_T44 y495 x9).f1, (rd_T44 y495 x9).f2, (rd_T44 y495 x9).f3, (rd_T44 y495 x9).f4, false⟩ : S44) : List (S44))).bind fun y496 => (if ((rd_T44 y496 x9).f0) = 5 then (stickfullaw14_FillForced.l0 k x0 y496 (wrap64 (x8 + 1)) (wrap64 (x9 + 1)) x487000 x487001 x488000 x488001) else (stickfullaw14_FillForced.l0 k x0 y496 x8 (wrap64 (x9 + 1)) x487000 x487001 x488000 x488001)))) else (none)) else ((fill_Lines.f k x7 x487000 x487001 x488000 x488001).bind fun bt498 => (if bt498.2 = 0 then (stickfullaw14_FillForced.j1 k x0 ((bt498.1.length : Int) != (wrap64 (x8 + 1))) x487000 x487001 x488000 x488001) else (stickfullaw14_FillForced.j1 k x0 false x487000 x487001 x488000 x488001)))
def stickfullaw14_FillForced.j1 : Nat → List (S44) → Bool → Int → Int → Int → Int → Option (Bool)
  | 0, _, _, _, _, _, _ => none
  | k + 1, x0, x61, x487000, x487001, x488000, x488001 => if x61 = true then (some false) else ((fill_One.f k x0 0 x487000 x487001).bind fun bt502 => ((fill_One.f k x0 0 (mx x487000 (wrap64 (x487000 + x488000))) x487001).bind fun bt508 => (if bt502.2.2.2 = 0 then (if bt508.2.2.2 = 0 then (if x488000 < 0 then ((stickfullaw14_head.f k).bind fun t513 => (some t513)) else (if bt508.2.1 ≥ bt502.2.1 then ((stickfullaw14_head.f k).bind fun t514 => (some t514)) else (some false))) else ((stickfullaw14_head.f k).bind fun t515 => (some t515))) else ((stickfullaw14_head.f k).bind fun t516 => (some t516)))))
end
def stickfullaw14_FillForced.f (k : Nat) (l0 : List (S44)) (a1_0 a1_1 a2_0 a2_1 : Int) : Option (Bool) := if (l0.length : Int) > 80 then ((stickfullaw14_head.f k).bind fun t488 => (some t488)) else ((some (([] : List (S44)) : List (S44))).bind fun y489 => (if y489.length + l0.length < 3518437208883 then (stickfullaw14_FillForced.l0 k l0 (y489 ++ l0) 0 0 a1_0 a1_1 a2_0 a2_1) else (none)))
theorem stickfullaw14_FillForced.mono_l : ∀ k, (∀ y0 y1 y2 y3 y4 y5 y6 y7, LeO (stickfullaw14_FillForced.l0 k y0 y1 y2 y3 y4 y5 y6 y7) (stickfullaw14_FillForced.l0 (k + 1) y0 y1 y2 y3 y4 y5 y6 y7)) ∧ (∀ y0 y1 y2 y3 y4 y5, LeO (stickfullaw14_FillForced.j1 k y0 y1 y2 y3 y4 y5) (stickfullaw14_FillForced.j1 (k + 1) y0 y1 y2 y3 y4 y5))
  | 0 => ⟨fun _ _ _ _ _ _ _ _ r h => by simp [stickfullaw14_FillForced.l0] at h, fun _ _ _ _ _ _ r h => by simp [stickfullaw14_FillForced.j1] at h⟩
  | k + 1 => by
    obtain ⟨ih0, ih1⟩ := stickfullaw14_FillForced.mono_l k
    refine ⟨?_, ?_⟩
    · intro y0 y1 y2 y3 y4 y5 y6 y7
      unfold stickfullaw14_FillForced.l0
      repeat' first
      | (with_reducible exact ih0 _ _ _ _ _ _ _ _)
      | (with_reducible exact ih1 _ _ _ _ _ _)
      | (with_reducible exact fill_Lines.mono _ _ _ _ _ _)
      | (with_reducible exact fill_One.mono _ _ _ _ _)
      | (with_reducible exact stickfullaw14_head.mono _)
      | (with_reducible exact LeO.refl _)
      | (with_reducible exact LeO.none _)
      | (with_reducible refine LeO.ite ?_ ?_)
      | (with_reducible refine LeO.bind ?_ (fun _ => ?_))
      | exact ih0 _ _ _ _ _ _ _ _
      | exact ih1 _ _ _ _ _ _
      | exact fill_Lines.mono _ _ _ _ _ _
      | exact fill_One.mono _ _ _ _ _
      | exact stickfullaw14_head.mono _
      | exact LeO.none _
      | refine LeO.ite ?_ ?_
      | refine LeO.bind ?_ (fun _ => ?_)
    · intro y0 y1 y2 y3 y4 y5
      unfold stickfullaw14_FillForced.j1
      repeat' first
      | (with_reducible exact ih0 _ _ _ _ _ _ _ _)
      | (with_reducible exact ih1 _ _ _ _ _ _)
      | (with_reducible exact fill_Lines.mono _ _ _ _ _ _)
      | (with_reducible exact fill_One.mono _ _ _ _ _)
      | (with_reducible exact stickfullaw14_head.mono _)
      | (with_reducible exact LeO.refl _)
      | (with_reducible exact LeO.none _)
      | (with_reducible refine LeO.ite ?_ ?_)
      | (with_reducible refine LeO.bind ?_ (fun _ => ?_))
      | exact ih0 _ _ _ _ _ _ _ _
      | exact ih1 _ _ _ _ _ _
      | exact fill_Lines.mono _ _ _ _ _ _
      | exact fill_One.mono _ _ _ _ _
      | exact stickfullaw14_head.mono _
      | exact LeO.none _
      | refine LeO.ite ?_ ?_
      | refine LeO.bind ?_ (fun _ => ?_)
theorem stickfullaw14_FillForced.mono : ∀ a0 a1 a2 a3 a4 k, LeO (stickfullaw14_FillForced.f k a0 a1 a2 a3 a4) (stickfullaw14_FillForced.f (k + 1) a0 a1 a2 a3 a4) := by
  intro a0 a1 a2 a3 a4 k
  obtain ⟨ih0, ih1⟩ := stickfullaw14_FillForced.mono_l k
  unfold stickfullaw14_FillForced.f
  repeat' first
      | (with_reducible exact ih0 _ _ _ _ _ _ _ _)
      | (with_reducible exact ih1 _ _ _ _ _ _)
      | (with_reducible exact fill_Lines.mono _ _ _ _ _ _)
      | (with_reducible exact fill_One.mono _ _ _ _ _)
      | (with_reducible exact stickfullaw14_head.mono _)
      | (with_reducible exact LeO.refl _)
      | (with_reducible exact LeO.none _)
      | (with_reducible refine LeO.ite ?_ ?_)
      | (with_reducible refine LeO.bind ?_ (fun _ => ?_))
      | exact ih0 _ _ _ _ _ _ _ _
      | exact ih1 _ _ _ _ _ _
      | exact fill_Lines.mono _ _ _ _ _ _
      | exact fill_One.mono _ _ _ _ _
      | exact stickfullaw14_head.mono _
      | exact LeO.none _
      | refine LeO.ite ?_ ?_
      | refine LeO.bind ?_ (fun _ => ?_)
set_option maxHeartbeats 8000000 in
set_option maxRecDepth 100000 in
theorem stickfullaw14_FillForced.calls_t (k : Nat) (A0 : Option Addr) (c0 : Nat) (l0 : List (S44)) (a1_0 a1_1 a2_0 a2_1 : Int) (r : Bool) (w : World) (hr0 : Kd.C k44 w A0 l0.length l0) (hc0 : l0.length ≤ c0) (h : stickfullaw14_FillForced.f k l0 a1_0 a1_1 a2_0 a2_1 = some r) (hr_ : r = true) :
    Calls Try.prog 6 #[.slice A0 l0.length c0, .agg #[.int .i64 a1_0, .int .i64 a1_1], .agg #[.int .i64 a2_0, .int .i64 a2_1]] w fun e w' => e = .returned (.bool r) ∧ Below w.heap.size w w' := by
  have hu24 := Try.underlying24
  have hu35 := Try.underlying35
  have HR_ := Aside0.mk hr_
  clear hr_
  have HR0 := Aside0.mk hr0
  have HC0 := Aside0.mk hc0
  clear hr0 hc0
  have HB := Aside0.mk (Below.refl w.heap.size w)
  have H : (if (l0.length : Int) > 80 then ((stickfullaw14_head.f k).bind fun t488 => (some t488)) else ((some (([] : List (S44)) : List (S44))).bind fun y489 => (if y489.length + l0.length < 3518437208883 then (stickfullaw14_FillForced.l0 k l0 (y489 ++ l0) 0 0 a1_0 a1_1 a2_0 a2_1) else (none)))) = some r := h
  clear h
  by_cases c4 : (l0.length : Int) > 80
  · rw [if_pos c4] at H
    have c4b0 : decide (80 < (l0.length : Int)) = true := decide_eq_true c4
    have c4b1 : decide (80 < l0.length) = true := decide_eq_true (by omega)
    clear c4
    replace H := Option.bind_eq_some_iff.mp H
    obtain ⟨t488, A50, H⟩ := H
    replace H : (some t488) = some r := H
    have A5 := Aside0.mk A50
    clear A50
    obtain rfl := Option.some.inj H
    go_enter Try.func6, Try.ntmps6
    go_wp2_with (first | ((with_reducible refine gate_dst (N := 4) rfl ?_); (try (refine gate_guard (by rfl) ?_; dsimp only)); refine box_event ?hg (N := 4) ?hd (cs := #[.int .i64 a1_0, .int .i64 a1_1]) (t := 24) ?hr ?_; (case hd => rfl); (case hg => rfl); (case hr => first | (go_simp; done) | (go_simp; rfl)); intro gb486 hg w6 hbox hb; have BK486 := Aside0.mk (hbox); have GW486 := bge HB hg; have GE486 := bge HB hg; replace HB := bh HB hb; clear hb hbox hg) | ((with_reducible refine gate_dst (N := 5) rfl ?_); (try (refine gate_guard (by rfl) ?_; dsimp only)); refine box_event ?hg (N := 5) ?hd (cs := #[.int .i64 a2_0, .int .i64 a2_1]) (t := 24) ?hr ?_; (case hd => rfl); (case hg => rfl); (case hr => first | (go_simp; done) | (go_simp; rfl)); intro gb487 hg w7 hbox hb; have BK487 := Aside0.mk (hbox); have GW487 := bge HB hg; have GE487 := bge HB hg; replace HB := bh HB hb; have NB486_487 := nbl BK486 hg; have NB487_486 := nbg BK486 hg; replace BK486 := bb BK486 hb; clear hb hbox hg) | ((with_reducible refine gate_callee (f := 8) rfl ?_); refine goesB (some 20) rfl rfl Try.func8 #[] rfl ?_; (with_reducible refine (stickfullaw14_head.calls k  t488 _ A5.out).mono ?_); rintro e w8 ⟨rfl, hb⟩; refine ⟨_, rfl, ?_⟩; replace BK486 := bb BK486 hb; replace BK487 := bb BK487 hb; replace HB := bh HB hb; (try clear hb); (try clear hb2); (try clear hk); (try clear hi)))
    go_ret
    exact ⟨by first | rfl | (simp [errW_none, errW_some] <;> rfl) | (simp [*, errW_none, errW_some] <;> rfl), by repeat (first | (with_reducible first | exact HB.out | apply below_alloc | apply pw_below_drewN | apply below_drew1 | refine below_set ?_ GE486.out | refine below_set ?_ GE487.out) | exact HB.out)⟩
  · rw [if_neg c4] at H
    have c4b0 : decide (80 < (l0.length : Int)) = false := decide_eq_false c4
    have c4b1 : decide (80 < l0.length) = false := decide_eq_false (by omega)
    clear c4
    obtain ⟨y489, hy489⟩ : ∃ y_ : List (S44), y_ = (([] : List (S44))) := ⟨_, rfl⟩
    replace H : (if y489.length + l0.length < 3518437208883 then (stickfullaw14_FillForced.l0 k l0 (y489 ++ l0) 0 0 a1_0 a1_1 a2_0 a2_1) else (none)) = some r := by first | (rw [hy489]; with_reducible exact H) | (have H2_ := (Option.bind_some _ _).symm.trans H; rw [hy489]; with_reducible exact H2_) | (have H2_ := (Option.bind_some _ _).symm.trans H; with_reducible exact H2_) | with_reducible exact H | (rw [hy489]; exact H) | exact H
    have Ny489 := Aside0.mk hy489
    clear hy489
    by_cases c9 : y489.length + l0.length < 3518437208883
    · rw [if_pos c9] at H
      have LMc9 := Aside0.mk c9
      clear c9
      obtain ⟨y492, hy492⟩ : ∃ y_ : List (S44), y_ = (y489 ++ l0) := ⟨_, rfl⟩
      replace H : (stickfullaw14_FillForced.l0 k l0 y492 0 0 a1_0 a1_1 a2_0 a2_1) = some r := by first | (rw [hy492]; with_reducible exact H) | (have H2_ := (Option.bind_some _ _).symm.trans H; rw [hy492]; with_reducible exact H2_) | (have H2_ := (Option.bind_some _ _).symm.trans H; with_reducible exact H2_) | with_reducible exact H | (rw [hy492]; exact H) | exact H
      have Ny492 := Aside0.mk hy492
      clear hy492
      have H' := Aside0.mk H
      clear H
      go_enter Try.func6, Try.ntmps6
      go_wp2_with (first | ((with_reducible refine gate_dst (N := 4) rfl ?_); (try (refine gate_guard (by rfl) ?_; dsimp only)); refine box_event ?hg (N := 4) ?hd (cs := #[.int .i64 a1_0, .int .i64 a1_1]) (t := 24) ?hr ?_; (case hd => rfl); (case hg => rfl); (case hr => first | (go_simp; done) | (go_simp; rfl)); intro gb486 hg w10 hbox hb; have BK486 := Aside0.mk (hbox); have GW486 := bge HB hg; have GE486 := bge HB hg; replace HB := bh HB hb; clear hb hbox hg) | ((with_reducible refine gate_dst (N := 5) rfl ?_); (try (refine gate_guard (by rfl) ?_; dsimp only)); refine box_event ?hg (N := 5) ?hd (cs := #[.int .i64 a2_0, .int .i64 a2_1]) (t := 24) ?hr ?_; (case hd => rfl); (case hg => rfl); (case hr => first | (go_simp; done) | (go_simp; rfl)); intro gb487 hg w11 hbox hb; have BK487 := Aside0.mk (hbox); have GW487 := bge HB hg; have GE487 := bge HB hg; replace HB := bh HB hb; have NB486_487 := nbl BK486 hg; have NB487_486 := nbg BK486 hg; replace BK486 := bb BK486 hb; clear hb hbox hg) | ((with_reducible refine gate_dst (N := 21) rfl ?_); (try (refine gate_guard (by rfl) ?_; dsimp only)); refine Kd.R_lit k44 _ 44 ?hg (N := 21) ?hd (xs := ([] : List (S44))) (inner := []) (ok := fun _ => True) (okp := fun _ => True) ?hr ?hp (fun _ hk => hk) trivial (Below.refl _ _) (Nat.le_refl _) (by simp) ?_; (case hd => rfl); (case hg => rfl); (case hr => first | (go_simp; done) | (go_simp; rfl)); (case hp => exact (Reps.none _ _)); intro v490 w12 ho13 hb hg_ hnew_; clear hg_ hnew_; (first | rw [← Ny489.out] at ho13 | (simp only [Int.reduceToNat] at ho13; rw [← Ny489.out] at ho13)); have HO491 := Aside0.mk (Kd.R_lower ho13 (below_size (bw HB))); replace BK486 := bb BK486 hb; replace BK487 := bb BK487 hb; replace HB := bh HB hb; clear hb ho13) | ((with_reducible refine gate_builtin (b := .append) (xs := #[.tmp 21, .tmp 22]) rfl ?_); (try (refine gate_guard (by rfl) ?_; dsimp only)); at_builtin; refine Kd.R_append_rows k44 (w0 := w) w.heap.size rfl (.tmp 21) (.tmp 22) 22 44 (.agg #[(.int .u8 0), (.int .i64 0), (.int .i64 0), (.int .i64 0), (.bool false), (.bool false)]) 40 rfl Try.underlying22 info44 rfl (by decide) (by omega) v490 y489 l0 _ _ _ (fun _ => True) (fun _ => False) rfl rfl ?aO ?aR (fun _ _ h => h) (fun _ h => h.elim) ?aF ?aB ?aS ?aL ?_; (case aR => repeat (first | exact (Kd.C_below HR0.out HB.out) | (with_reducible refine Kd.C_alloc ?_ _) | (with_reducible refine Kd.C_drewN ?_ _) | (with_reducible refine Kd.C_drew ?_))); (case aB => exact (bw HB)); (case aF => exact (fun _ _ => trivial)); (case aO => exact (rx HO491)); (case aS => exact (below_size (bw HB))); (case aL => have := LMc9.out; omega); intro v493 w14 ho hb hg hat; rw [← Ny492.out] at ho; replace BK486 := Aside0.mk (blk_grown (bx BK486) hg (Kd.R_ne HO491.out BK486.out (by decide))); replace BK487 := Aside0.mk (blk_grown (bx BK487) hg (Kd.R_ne HO491.out BK487.out (by decide))); replace HB := Aside0.mk (hb); have HO494 := Aside0.mk (ho); clear HO491; clear ho hb hg hat))
      go_loopg [8, 9] k (fun kq v8 v9 w' => ∃ (x7_1 : List (S44)) (x8_1 x9_1 : Int), v8 = .int .i64 x8_1 ∧ v9 = .int .i64 x9_1 ∧ Aside0 (stickfullaw14_FillForced.l0 kq l0 x7_1 x8_1 x9_1 a1_0 a1_1 a2_0 a2_1 = some r) ∧ Aside0 (kq ≤ k) ∧ Aside0 (Kd.R k44 44 w' w.heap.size (fun _ => True) v493 x7_1) ∧ Aside0 (w'.heap[gb486]? = some (.cells #[.int .i64 a1_0, .int .i64 a1_1] 24 (0, 0))) ∧ Aside0 (w'.heap[gb487]? = some (.cells #[.int .i64 a2_0, .int .i64 a2_1] 24 (0, 0))) ∧ Aside0 (Below w.heap.size w w'))
      case atStart => exact ⟨(y492), (0), (0), (by first | rfl | (simp; done) | (simp [*]; done)), (by first | rfl | (simp; done) | (simp [*]; done)), H', ⟨Nat.le_refl _⟩, ⟨by (with_reducible repeat (first | apply Kd.R_alloc | apply Kd.R_drewN | apply Kd.R_drew)); exact HO494.out⟩, ⟨by (with_reducible repeat (first | refine blk_drewN ?_ _ | refine blk_drew ?_ | refine blk_alloc ?_ _)); exact BK486.out⟩, ⟨by (with_reducible repeat (first | refine blk_drewN ?_ _ | refine blk_drew ?_ | refine blk_alloc ?_ _)); exact BK487.out⟩, ⟨by repeat (first | (with_reducible first | exact HB.out | apply below_alloc | apply pw_below_drewN | apply below_drew1 | refine below_set ?_ GE486.out | refine below_set ?_ GE487.out) | exact HB.out)⟩⟩
      case round =>
        clear H'
        try clear p2
        try clear c4
        try clear c4b0
        try clear c4b1
        try clear c6
        try clear c8
        try clear c9
        obtain ⟨x7_1, x8_1, x9_1, rfl, rfl, HA, HK1, HO_7, BK486, BK487, HB⟩ := hrel
        cases gk with
        | zero => exact absurd HA.out (by simp [stickfullaw14_FillForced.l0])
        | succ k1 =>
          have H := HA.out
          clear HA
          simp only [stickfullaw14_FillForced.l0] at H
          by_cases c15 : x9_1 < (x7_1.length : Int)
          · rw [if_pos c15] at H
            have c15b0 : decide (x9_1 < (x7_1.length : Int)) = true := decide_eq_true c15
            clear c15
            by_cases c16 : 0 ≤ x9_1
            · rw [if_pos c16] at H
              have c16b0 : decide (0 ≤ x9_1) = true := decide_eq_true c16
              clear c16
              obtain ⟨y495, hy495⟩ : ∃ y_ : List (S44), y_ = (x7_1.set (x9_1 : Int).toNat (⟨(rd_T44 x7_1 x9_1).f0, (rd_T44 x7_1 x9_1).f1, (rd_T44 x7_1 x9_1).f2, (rd_T44 x7_1 x9_1).f3, false, (rd_T44 x7_1 x9_1).f5⟩ : S44)) := ⟨_, rfl⟩
              replace H : ((some (y495.set (x9_1 : Int).toNat (⟨(rd_T44 y495 x9_1).f0, (rd_T44 y495 x9_1).f1, (rd_T44 y495 x9_1).f2, (rd_T44 y495 x9_1).f3, (rd_T44 y495 x9_1).f4, false⟩ : S44) : List (S44))).bind fun y496 => (if ((rd_T44 y496 x9_1).f0) = 5 then (stickfullaw14_FillForced.l0 k1 l0 y496 (wrap64 (x8_1 + 1)) (wrap64 (x9_1 + 1)) a1_0 a1_1 a2_0 a2_1) else (stickfullaw14_FillForced.l0 k1 l0 y496 x8_1 (wrap64 (x9_1 + 1)) a1_0 a1_1 a2_0 a2_1))) = some r := by first | (rw [hy495]; with_reducible exact H) | (have H2_ := (Option.bind_some _ _).symm.trans H; rw [hy495]; with_reducible exact H2_) | (have H2_ := (Option.bind_some _ _).symm.trans H; with_reducible exact H2_) | with_reducible exact H | (rw [hy495]; exact H) | exact H
              have Ny495 := Aside0.mk hy495
              clear hy495
              obtain ⟨y496, hy496⟩ : ∃ y_ : List (S44), y_ = (y495.set (x9_1 : Int).toNat (⟨(rd_T44 y495 x9_1).f0, (rd_T44 y495 x9_1).f1, (rd_T44 y495 x9_1).f2, (rd_T44 y495 x9_1).f3, (rd_T44 y495 x9_1).f4, false⟩ : S44)) := ⟨_, rfl⟩
              replace H : (if ((rd_T44 y496 x9_1).f0) = 5 then (stickfullaw14_FillForced.l0 k1 l0 y496 (wrap64 (x8_1 + 1)) (wrap64 (x9_1 + 1)) a1_0 a1_1 a2_0 a2_1) else (stickfullaw14_FillForced.l0 k1 l0 y496 x8_1 (wrap64 (x9_1 + 1)) a1_0 a1_1 a2_0 a2_1)) = some r := by first | (rw [hy496]; with_reducible exact H) | (have H2_ := (Option.bind_some _ _).symm.trans H; rw [hy496]; with_reducible exact H2_) | (have H2_ := (Option.bind_some _ _).symm.trans H; with_reducible exact H2_) | with_reducible exact H | (rw [hy496]; exact H) | exact H
              have Ny496 := Aside0.mk hy496
              clear hy496
              by_cases c19 : ((rd_T44 y496 x9_1).f0) = 5
              · rw [if_pos c19] at H
                have c19b0 : (((rd_T44 y496 x9_1).f0) == 5) = true := beq_iff_eq.mpr c19
                have c19b1 : (((rd_T44 y496 x9_1).f0) != 5) = false := bne_eq_false_iff_eq.mpr c19
                clear c19
                have H' := Aside0.mk H
                clear H
                obtain ⟨Ao20, co20, eo20⟩ := Kd.R_slice HO_7.out
                subst eo20
                have p17 : 0 ≤ (x9_1 : Int) := of_decide_eq_true (by first | (with_reducible assumption) | assumption)
                have q17 : (x9_1 : Int) < ((x7_1.length : Int) : Int) := of_decide_eq_true (by first | (with_reducible assumption) | assumption)
                obtain ⟨go17, co17, eo17, gb17, gl17, cl17, HG17⟩ := Kd.R_form HO_7.out (by omega)
                (first | cases eo17 | (injection eo17 with ea_ en_ ec_; (first | subst ea_ | (injection ea_ with ea_; subst ea_)); subst ec_; clear en_))
                have GB17 := Aside0.mk gb17
                have GG17 := Aside0.mk HG17
                clear gb17 gl17 HG17
                obtain ⟨ce17, hcl17, hM17, hcc17, hfr17⟩ := Kd.R_elem HO_7.out z44 (x9_1 : Int) p17 q17
                obtain rfl := k44_openM hM17
                have hx17_0 : wr.cell? ⟨go17, (x9_1 : Int).toNat * 6, none⟩ = some (.int .u8 ((rd_T44 x7_1 x9_1).f0)) := hcc17 0 _ rfl
                have hx17_1 : wr.cell? ⟨go17, (x9_1 : Int).toNat * 6 + 1, none⟩ = some (.int .i64 ((rd_T44 x7_1 x9_1).f1)) := hcc17 1 _ rfl
                have hx17_2 : wr.cell? ⟨go17, (x9_1 : Int).toNat * 6 + 2, none⟩ = some (.int .i64 ((rd_T44 x7_1 x9_1).f2)) := hcc17 2 _ rfl
                have hx17_3 : wr.cell? ⟨go17, (x9_1 : Int).toNat * 6 + 3, none⟩ = some (.int .i64 ((rd_T44 x7_1 x9_1).f3)) := hcc17 3 _ rfl
                have hx17_4 : wr.cell? ⟨go17, (x9_1 : Int).toNat * 6 + 4, none⟩ = some (.bool ((rd_T44 x7_1 x9_1).f4)) := hcc17 4 _ rfl
                have hx17_5 : wr.cell? ⟨go17, (x9_1 : Int).toNat * 6 + 5, none⟩ = some (.bool ((rd_T44 x7_1 x9_1).f5)) := hcc17 5 _ rfl
                have hf17_0 : wr.frozen? ⟨go17, (x9_1 : Int).toNat * 6, none⟩ = false := hfr17 0
                have hf17_1 : wr.frozen? ⟨go17, (x9_1 : Int).toNat * 6 + 1, none⟩ = false := hfr17 1
                have hf17_2 : wr.frozen? ⟨go17, (x9_1 : Int).toNat * 6 + 2, none⟩ = false := hfr17 2
                have hf17_3 : wr.frozen? ⟨go17, (x9_1 : Int).toNat * 6 + 3, none⟩ = false := hfr17 3
                have hf17_4 : wr.frozen? ⟨go17, (x9_1 : Int).toNat * 6 + 4, none⟩ = false := hfr17 4
                have hf17_5 : wr.frozen? ⟨go17, (x9_1 : Int).toNat * 6 + 5, none⟩ = false := hfr17 5
                clear hcl17 hcc17 hfr17 hM17
                replace p17 := eq_true p17
                replace q17 := eq_true q17
                have HX21 := Aside0.mk (show Kd.R k44 44 wr w.heap.size (fun _ => True) (.slice (some ⟨go17, 0, none⟩) x7_1.length co20) x7_1 from (rx HO_7))
                obtain ⟨ce21, hcl21, hM21, hcc21, hfr21⟩ := Kd.R_elem HX21.out z44 (x9_1 : Int) (of_decide_eq_true (by first | (with_reducible assumption) | assumption)) (by have h_ : (x9_1 : Int) < ((x7_1.length : Int) : Int) := of_decide_eq_true (by first | (with_reducible assumption) | assumption); first | exact h_ | (have e_ := (Kd.R_reads' HO_7.out).1; omega) | simpa using h_)
                obtain rfl := k44_openM hM21
                have HP21 := Kd.R_seg HX21.out (x9_1 : Int) (of_decide_eq_true (by first | (with_reducible assumption) | assumption)) (by have h_ : (x9_1 : Int) < ((x7_1.length : Int) : Int) := of_decide_eq_true (by first | (with_reducible assumption) | assumption); first | exact h_ | (have e_ := (Kd.R_reads' HO_7.out).1; omega) | simpa using h_) (seg := [.bool false]) (j := 4) hcl21 hcc21 (show 5 ≤ 6 from by decide) (x' := (⟨(rd_T44 x7_1 x9_1).f0, (rd_T44 x7_1 x9_1).f1, (rd_T44 x7_1 x9_1).f2, (rd_T44 x7_1 x9_1).f3, false, (rd_T44 x7_1 x9_1).f5⟩ : S44)) (k44_mkM _ _ _ (⟨(rd_T44 x7_1 x9_1).f0, (rd_T44 x7_1 x9_1).f1, (rd_T44 x7_1 x9_1).f2, (rd_T44 x7_1 x9_1).f3, false, (rd_T44 x7_1 x9_1).f5⟩ : S44) ) (fun _ hk => hk)
                have hx21_4 := hcc21 4 _ rfl
                (try simp only [show (k44).sz = 6 from rfl, Nat.mul_one, Nat.add_zero] at hx21_4)
                have hf21_4 := hfr21 4
                (try simp only [show (k44).sz = 6 from rfl, Nat.mul_one, Nat.add_zero] at hf21_4)
                clear hcl21 hcc21 hfr21 hM21
                go_wp2_with (first | ((with_reducible refine gate_store (t := 4) (p := 33) rfl ?_); refine store_event (t := 4) (p := 33) (v := ?vo_w22) (w1 := (wr.setCell ⟨go17, (x9_1 : Int).toNat * 6 + 4, none⟩ (.bool false))) ?hg ?ho ?hn ?hr ?_; (case ho => rfl); (case hg => rfl); (case hn => rfl); (case hr => first | (go_simp; done) | (go_simp; rfl)); intro w22 hw; have hg : wr.grownBy w22 (some go17) := (by rw [hw]; exact HP21.2); have hp_ : Kd.R k44 44 w22 w.heap.size (fun _ => True) (.slice (some ⟨go17, 0, none⟩) x7_1.length co20) y495 := (by rw [hw, Ny495.out]; exact HP21.1); clear HP21; replace BK486 := Aside0.mk (blk_grown (bx BK486) hg (by first | exact Kd.R_ne HO_7.out BK486.out (by decide) | exact (fun e => by have z := And.left HO_7.out _ e.symm; simp at z))); replace BK487 := Aside0.mk (blk_grown (bx BK487) hg (by first | exact Kd.R_ne HO_7.out BK487.out (by decide) | exact (fun e => by have z := And.left HO_7.out _ e.symm; simp at z))); replace HO_7 := Aside0.mk (hp_); replace HB := Aside0.mk ((by rw [hw]; exact below_set (HB.out) GB17.out : Below w.heap.size w w22)); clear hg hw hp_; have p18 : 0 ≤ (x9_1 : Int) := of_decide_eq_true (by first | (with_reducible assumption) | assumption); have q18 : (x9_1 : Int) < ((x7_1.length : Int) : Int) := of_decide_eq_true (by first | (with_reducible assumption) | assumption); obtain ⟨ce18, hcl18, hM18, hcc18, hfr18⟩ := Kd.R_elem HO_7.out z44 (x9_1 : Int) p18 q18; obtain rfl := k44_openM hM18; have hx18_0 : w22.cell? ⟨go17, (x9_1 : Int).toNat * 6, none⟩ = some (.int .u8 ((rd_T44 y495 x9_1).f0)) := hcc18 0 _ rfl; have hx18_1 : w22.cell? ⟨go17, (x9_1 : Int).toNat * 6 + 1, none⟩ = some (.int .i64 ((rd_T44 y495 x9_1).f1)) := hcc18 1 _ rfl; have hx18_2 : w22.cell? ⟨go17, (x9_1 : Int).toNat * 6 + 2, none⟩ = some (.int .i64 ((rd_T44 y495 x9_1).f2)) := hcc18 2 _ rfl; have hx18_3 : w22.cell? ⟨go17, (x9_1 : Int).toNat * 6 + 3, none⟩ = some (.int .i64 ((rd_T44 y495 x9_1).f3)) := hcc18 3 _ rfl; have hx18_4 : w22.cell? ⟨go17, (x9_1 : Int).toNat * 6 + 4, none⟩ = some (.bool ((rd_T44 y495 x9_1).f4)) := hcc18 4 _ rfl; have hx18_5 : w22.cell? ⟨go17, (x9_1 : Int).toNat * 6 + 5, none⟩ = some (.bool ((rd_T44 y495 x9_1).f5)) := hcc18 5 _ rfl; have hf18_0 : w22.frozen? ⟨go17, (x9_1 : Int).toNat * 6, none⟩ = false := hfr18 0; have hf18_1 : w22.frozen? ⟨go17, (x9_1 : Int).toNat * 6 + 1, none⟩ = false := hfr18 1; have hf18_2 : w22.frozen? ⟨go17, (x9_1 : Int).toNat * 6 + 2, none⟩ = false := hfr18 2; have hf18_3 : w22.frozen? ⟨go17, (x9_1 : Int).toNat * 6 + 3, none⟩ = false := hfr18 3; have hf18_4 : w22.frozen? ⟨go17, (x9_1 : Int).toNat * 6 + 4, none⟩ = false := hfr18 4; have hf18_5 : w22.frozen? ⟨go17, (x9_1 : Int).toNat * 6 + 5, none⟩ = false := hfr18 5; clear hcl18 hcc18 hfr18 hM18; replace p18 := eq_true p18; replace q18 := eq_true q18; have HX23 := Aside0.mk (show Kd.R k44 44 w22 w.heap.size (fun _ => True) (.slice (some ⟨go17, 0, none⟩) x7_1.length co20) y495 from (rx HO_7)); obtain ⟨ce23, hcl23, hM23, hcc23, hfr23⟩ := Kd.R_elem HX23.out z44 (x9_1 : Int) (of_decide_eq_true (by first | (with_reducible assumption) | assumption)) (by have h_ : (x9_1 : Int) < ((x7_1.length : Int) : Int) := of_decide_eq_true (by first | (with_reducible assumption) | assumption); first | exact h_ | (have e_ := (Kd.R_reads' HO_7.out).1; omega) | simpa using h_); obtain rfl := k44_openM hM23; have HP23 := Kd.R_seg HX23.out (x9_1 : Int) (of_decide_eq_true (by first | (with_reducible assumption) | assumption)) (by have h_ : (x9_1 : Int) < ((x7_1.length : Int) : Int) := of_decide_eq_true (by first | (with_reducible assumption) | assumption); first | exact h_ | (have e_ := (Kd.R_reads' HO_7.out).1; omega) | simpa using h_) (seg := [.bool false]) (j := 5) hcl23 hcc23 (show 6 ≤ 6 from by decide) (x' := (⟨(rd_T44 y495 x9_1).f0, (rd_T44 y495 x9_1).f1, (rd_T44 y495 x9_1).f2, (rd_T44 y495 x9_1).f3, (rd_T44 y495 x9_1).f4, false⟩ : S44)) (k44_mkM _ _ _ (⟨(rd_T44 y495 x9_1).f0, (rd_T44 y495 x9_1).f1, (rd_T44 y495 x9_1).f2, (rd_T44 y495 x9_1).f3, (rd_T44 y495 x9_1).f4, false⟩ : S44) ) (fun _ hk => hk); have hx23_5 := hcc23 5 _ rfl; (try simp only [show (k44).sz = 6 from rfl, Nat.mul_one, Nat.add_zero] at hx23_5); have hf23_5 := hfr23 5; (try simp only [show (k44).sz = 6 from rfl, Nat.mul_one, Nat.add_zero] at hf23_5); clear hcl23 hcc23 hfr23 hM23) | ((with_reducible refine gate_store (t := 4) (p := 37) rfl ?_); refine store_event (t := 4) (p := 37) (v := ?vo_w24) (w1 := (w22.setCell ⟨go17, (x9_1 : Int).toNat * 6 + 5, none⟩ (.bool false))) ?hg ?ho ?hn ?hr ?_; (case ho => rfl); (case hg => rfl); (case hn => rfl); (case hr => first | (go_simp; done) | (go_simp; rfl)); intro w24 hw; have hg : w22.grownBy w24 (some go17) := (by rw [hw]; exact HP23.2); have hp_ : Kd.R k44 44 w24 w.heap.size (fun _ => True) (.slice (some ⟨go17, 0, none⟩) x7_1.length co20) y496 := (by rw [hw, Ny496.out]; exact HP23.1); clear HP23; replace BK486 := Aside0.mk (blk_grown (bx BK486) hg (by first | exact Kd.R_ne HO_7.out BK486.out (by decide) | exact (fun e => by have z := And.left HO_7.out _ e.symm; simp at z))); replace BK487 := Aside0.mk (blk_grown (bx BK487) hg (by first | exact Kd.R_ne HO_7.out BK487.out (by decide) | exact (fun e => by have z := And.left HO_7.out _ e.symm; simp at z))); replace HO_7 := Aside0.mk (hp_); replace HB := Aside0.mk ((by rw [hw]; exact below_set (HB.out) GB17.out : Below w.heap.size w w24)); clear hg hw hp_; have p497 : 0 ≤ (x9_1 : Int) := of_decide_eq_true (by first | (with_reducible assumption) | assumption); have q497 : x9_1 < (y496.length : Int) := (by have h_ : (x9_1 : Int) < ((x7_1.length : Int) : Int) := of_decide_eq_true (by first | (with_reducible assumption) | assumption); first | (have e_ := (Kd.R_reads' HO_7.out).1; omega) | simpa only [Ny495.out, Ny496.out, List.length_set] using h_); have ql497 : ((x9_1 : Int) < ((x7_1.length : Int) : Int)) = True := eq_true (of_decide_eq_true (by first | (with_reducible assumption) | assumption)); obtain ⟨ad497, e497, hx497_0, hx497_1, hx497_2, hx497_3, hx497_4, hx497_5⟩ := at_T44 (Kd.R_reads' HO_7.out).2.2 x9_1 p497 q497; obtain rfl : (⟨go17, 0, none⟩ : Addr) = ad497 := (by injection e497); (first | simp only [add_plain] at hx497_0 | simp only [add_at] at hx497_0 | simp only [Addr.add, Nat.zero_add] at hx497_0 | skip); (first | simp only [add_plain] at hx497_1 | simp only [add_at] at hx497_1 | simp only [Addr.add, Nat.zero_add] at hx497_1 | skip); (first | simp only [add_plain] at hx497_2 | simp only [add_at] at hx497_2 | simp only [Addr.add, Nat.zero_add] at hx497_2 | skip); (first | simp only [add_plain] at hx497_3 | simp only [add_at] at hx497_3 | simp only [Addr.add, Nat.zero_add] at hx497_3 | skip); (first | simp only [add_plain] at hx497_4 | simp only [add_at] at hx497_4 | simp only [Addr.add, Nat.zero_add] at hx497_4 | skip); (first | simp only [add_plain] at hx497_5 | simp only [add_at] at hx497_5 | simp only [Addr.add, Nat.zero_add] at hx497_5 | skip); replace p497 := eq_true p497; replace q497 := eq_true q497))
                go_roundg k1
                case measure => have := HK1.out; omega
                case rel => exact ⟨(y496), (wrap64 (x8_1 + 1)), (wrap64 (x9_1 + 1)), (by first | rfl | (simp; done) | (simp [*]; done)), (by first | rfl | (simp; done) | (simp [*]; done)), H', ⟨by have := HK1.out; omega⟩, ⟨by (with_reducible repeat (first | apply Kd.R_alloc | apply Kd.R_drewN | apply Kd.R_drew)); exact HO_7.out⟩, ⟨by (with_reducible repeat (first | refine blk_drewN ?_ _ | refine blk_drew ?_ | refine blk_alloc ?_ _)); exact BK486.out⟩, ⟨by (with_reducible repeat (first | refine blk_drewN ?_ _ | refine blk_drew ?_ | refine blk_alloc ?_ _)); exact BK487.out⟩, ⟨by repeat (first | (with_reducible first | exact HB.out | apply below_alloc | apply pw_below_drewN | apply below_drew1 | refine below_set ?_ GE486.out | refine below_set ?_ GE487.out) | exact HB.out)⟩⟩
              · rw [if_neg c19] at H
                have c19b0 : (((rd_T44 y496 x9_1).f0) == 5) = false := beq_eq_false_iff_ne.mpr c19
                have c19b1 : (((rd_T44 y496 x9_1).f0) != 5) = true := bne_iff_ne.mpr c19
                have H' := Aside0.mk H
                clear H
                obtain ⟨Ao25, co25, eo25⟩ := Kd.R_slice HO_7.out
                subst eo25
                have p17 : 0 ≤ (x9_1 : Int) := of_decide_eq_true (by first | (with_reducible assumption) | assumption)
                have q17 : (x9_1 : Int) < ((x7_1.length : Int) : Int) := of_decide_eq_true (by first | (with_reducible assumption) | assumption)
                obtain ⟨go17, co17, eo17, gb17, gl17, cl17, HG17⟩ := Kd.R_form HO_7.out (by omega)
                (first | cases eo17 | (injection eo17 with ea_ en_ ec_; (first | subst ea_ | (injection ea_ with ea_; subst ea_)); subst ec_; clear en_))
                have GB17 := Aside0.mk gb17
                have GG17 := Aside0.mk HG17
                clear gb17 gl17 HG17
                obtain ⟨ce17, hcl17, hM17, hcc17, hfr17⟩ := Kd.R_elem HO_7.out z44 (x9_1 : Int) p17 q17
                obtain rfl := k44_openM hM17
                have hx17_0 : wr.cell? ⟨go17, (x9_1 : Int).toNat * 6, none⟩ = some (.int .u8 ((rd_T44 x7_1 x9_1).f0)) := hcc17 0 _ rfl
                have hx17_1 : wr.cell? ⟨go17, (x9_1 : Int).toNat * 6 + 1, none⟩ = some (.int .i64 ((rd_T44 x7_1 x9_1).f1)) := hcc17 1 _ rfl
                have hx17_2 : wr.cell? ⟨go17, (x9_1 : Int).toNat * 6 + 2, none⟩ = some (.int .i64 ((rd_T44 x7_1 x9_1).f2)) := hcc17 2 _ rfl
                have hx17_3 : wr.cell? ⟨go17, (x9_1 : Int).toNat * 6 + 3, none⟩ = some (.int .i64 ((rd_T44 x7_1 x9_1).f3)) := hcc17 3 _ rfl
                have hx17_4 : wr.cell? ⟨go17, (x9_1 : Int).toNat * 6 + 4, none⟩ = some (.bool ((rd_T44 x7_1 x9_1).f4)) := hcc17 4 _ rfl
                have hx17_5 : wr.cell? ⟨go17, (x9_1 : Int).toNat * 6 + 5, none⟩ = some (.bool ((rd_T44 x7_1 x9_1).f5)) := hcc17 5 _ rfl
                have hf17_0 : wr.frozen? ⟨go17, (x9_1 : Int).toNat * 6, none⟩ = false := hfr17 0
                have hf17_1 : wr.frozen? ⟨go17, (x9_1 : Int).toNat * 6 + 1, none⟩ = false := hfr17 1
                have hf17_2 : wr.frozen? ⟨go17, (x9_1 : Int).toNat * 6 + 2, none⟩ = false := hfr17 2
                have hf17_3 : wr.frozen? ⟨go17, (x9_1 : Int).toNat * 6 + 3, none⟩ = false := hfr17 3
                have hf17_4 : wr.frozen? ⟨go17, (x9_1 : Int).toNat * 6 + 4, none⟩ = false := hfr17 4
                have hf17_5 : wr.frozen? ⟨go17, (x9_1 : Int).toNat * 6 + 5, none⟩ = false := hfr17 5
                clear hcl17 hcc17 hfr17 hM17
                replace p17 := eq_true p17
                replace q17 := eq_true q17
                have HX26 := Aside0.mk (show Kd.R k44 44 wr w.heap.size (fun _ => True) (.slice (some ⟨go17, 0, none⟩) x7_1.length co25) x7_1 from (rx HO_7))
                obtain ⟨ce26, hcl26, hM26, hcc26, hfr26⟩ := Kd.R_elem HX26.out z44 (x9_1 : Int) (of_decide_eq_true (by first | (with_reducible assumption) | assumption)) (by have h_ : (x9_1 : Int) < ((x7_1.length : Int) : Int) := of_decide_eq_true (by first | (with_reducible assumption) | assumption); first | exact h_ | (have e_ := (Kd.R_reads' HO_7.out).1; omega) | simpa using h_)
                obtain rfl := k44_openM hM26
                have HP26 := Kd.R_seg HX26.out (x9_1 : Int) (of_decide_eq_true (by first | (with_reducible assumption) | assumption)) (by have h_ : (x9_1 : Int) < ((x7_1.length : Int) : Int) := of_decide_eq_true (by first | (with_reducible assumption) | assumption); first | exact h_ | (have e_ := (Kd.R_reads' HO_7.out).1; omega) | simpa using h_) (seg := [.bool false]) (j := 4) hcl26 hcc26 (show 5 ≤ 6 from by decide) (x' := (⟨(rd_T44 x7_1 x9_1).f0, (rd_T44 x7_1 x9_1).f1, (rd_T44 x7_1 x9_1).f2, (rd_T44 x7_1 x9_1).f3, false, (rd_T44 x7_1 x9_1).f5⟩ : S44)) (k44_mkM _ _ _ (⟨(rd_T44 x7_1 x9_1).f0, (rd_T44 x7_1 x9_1).f1, (rd_T44 x7_1 x9_1).f2, (rd_T44 x7_1 x9_1).f3, false, (rd_T44 x7_1 x9_1).f5⟩ : S44) ) (fun _ hk => hk)
                have hx26_4 := hcc26 4 _ rfl
                (try simp only [show (k44).sz = 6 from rfl, Nat.mul_one, Nat.add_zero] at hx26_4)
                have hf26_4 := hfr26 4
                (try simp only [show (k44).sz = 6 from rfl, Nat.mul_one, Nat.add_zero] at hf26_4)
                clear hcl26 hcc26 hfr26 hM26
                go_wp2_with (first | ((with_reducible refine gate_store (t := 4) (p := 33) rfl ?_); refine store_event (t := 4) (p := 33) (v := ?vo_w27) (w1 := (wr.setCell ⟨go17, (x9_1 : Int).toNat * 6 + 4, none⟩ (.bool false))) ?hg ?ho ?hn ?hr ?_; (case ho => rfl); (case hg => rfl); (case hn => rfl); (case hr => first | (go_simp; done) | (go_simp; rfl)); intro w27 hw; have hg : wr.grownBy w27 (some go17) := (by rw [hw]; exact HP26.2); have hp_ : Kd.R k44 44 w27 w.heap.size (fun _ => True) (.slice (some ⟨go17, 0, none⟩) x7_1.length co25) y495 := (by rw [hw, Ny495.out]; exact HP26.1); clear HP26; replace BK486 := Aside0.mk (blk_grown (bx BK486) hg (by first | exact Kd.R_ne HO_7.out BK486.out (by decide) | exact (fun e => by have z := And.left HO_7.out _ e.symm; simp at z))); replace BK487 := Aside0.mk (blk_grown (bx BK487) hg (by first | exact Kd.R_ne HO_7.out BK487.out (by decide) | exact (fun e => by have z := And.left HO_7.out _ e.symm; simp at z))); replace HO_7 := Aside0.mk (hp_); replace HB := Aside0.mk ((by rw [hw]; exact below_set (HB.out) GB17.out : Below w.heap.size w w27)); clear hg hw hp_; have p18 : 0 ≤ (x9_1 : Int) := of_decide_eq_true (by first | (with_reducible assumption) | assumption); have q18 : (x9_1 : Int) < ((x7_1.length : Int) : Int) := of_decide_eq_true (by first | (with_reducible assumption) | assumption); obtain ⟨ce18, hcl18, hM18, hcc18, hfr18⟩ := Kd.R_elem HO_7.out z44 (x9_1 : Int) p18 q18; obtain rfl := k44_openM hM18; have hx18_0 : w27.cell? ⟨go17, (x9_1 : Int).toNat * 6, none⟩ = some (.int .u8 ((rd_T44 y495 x9_1).f0)) := hcc18 0 _ rfl; have hx18_1 : w27.cell? ⟨go17, (x9_1 : Int).toNat * 6 + 1, none⟩ = some (.int .i64 ((rd_T44 y495 x9_1).f1)) := hcc18 1 _ rfl; have hx18_2 : w27.cell? ⟨go17, (x9_1 : Int).toNat * 6 + 2, none⟩ = some (.int .i64 ((rd_T44 y495 x9_1).f2)) := hcc18 2 _ rfl; have hx18_3 : w27.cell? ⟨go17, (x9_1 : Int).toNat * 6 + 3, none⟩ = some (.int .i64 ((rd_T44 y495 x9_1).f3)) := hcc18 3 _ rfl; have hx18_4 : w27.cell? ⟨go17, (x9_1 : Int).toNat * 6 + 4, none⟩ = some (.bool ((rd_T44 y495 x9_1).f4)) := hcc18 4 _ rfl; have hx18_5 : w27.cell? ⟨go17, (x9_1 : Int).toNat * 6 + 5, none⟩ = some (.bool ((rd_T44 y495 x9_1).f5)) := hcc18 5 _ rfl; have hf18_0 : w27.frozen? ⟨go17, (x9_1 : Int).toNat * 6, none⟩ = false := hfr18 0; have hf18_1 : w27.frozen? ⟨go17, (x9_1 : Int).toNat * 6 + 1, none⟩ = false := hfr18 1; have hf18_2 : w27.frozen? ⟨go17, (x9_1 : Int).toNat * 6 + 2, none⟩ = false := hfr18 2; have hf18_3 : w27.frozen? ⟨go17, (x9_1 : Int).toNat * 6 + 3, none⟩ = false := hfr18 3; have hf18_4 : w27.frozen? ⟨go17, (x9_1 : Int).toNat * 6 + 4, none⟩ = false := hfr18 4; have hf18_5 : w27.frozen? ⟨go17, (x9_1 : Int).toNat * 6 + 5, none⟩ = false := hfr18 5; clear hcl18 hcc18 hfr18 hM18; replace p18 := eq_true p18; replace q18 := eq_true q18; have HX28 := Aside0.mk (show Kd.R k44 44 w27 w.heap.size (fun _ => True) (.slice (some ⟨go17, 0, none⟩) x7_1.length co25) y495 from (rx HO_7)); obtain ⟨ce28, hcl28, hM28, hcc28, hfr28⟩ := Kd.R_elem HX28.out z44 (x9_1 : Int) (of_decide_eq_true (by first | (with_reducible assumption) | assumption)) (by have h_ : (x9_1 : Int) < ((x7_1.length : Int) : Int) := of_decide_eq_true (by first | (with_reducible assumption) | assumption); first | exact h_ | (have e_ := (Kd.R_reads' HO_7.out).1; omega) | simpa using h_); obtain rfl := k44_openM hM28; have HP28 := Kd.R_seg HX28.out (x9_1 : Int) (of_decide_eq_true (by first | (with_reducible assumption) | assumption)) (by have h_ : (x9_1 : Int) < ((x7_1.length : Int) : Int) := of_decide_eq_true (by first | (with_reducible assumption) | assumption); first | exact h_ | (have e_ := (Kd.R_reads' HO_7.out).1; omega) | simpa using h_) (seg := [.bool false]) (j := 5) hcl28 hcc28 (show 6 ≤ 6 from by decide) (x' := (⟨(rd_T44 y495 x9_1).f0, (rd_T44 y495 x9_1).f1, (rd_T44 y495 x9_1).f2, (rd_T44 y495 x9_1).f3, (rd_T44 y495 x9_1).f4, false⟩ : S44)) (k44_mkM _ _ _ (⟨(rd_T44 y495 x9_1).f0, (rd_T44 y495 x9_1).f1, (rd_T44 y495 x9_1).f2, (rd_T44 y495 x9_1).f3, (rd_T44 y495 x9_1).f4, false⟩ : S44) ) (fun _ hk => hk); have hx28_5 := hcc28 5 _ rfl; (try simp only [show (k44).sz = 6 from rfl, Nat.mul_one, Nat.add_zero] at hx28_5); have hf28_5 := hfr28 5; (try simp only [show (k44).sz = 6 from rfl, Nat.mul_one, Nat.add_zero] at hf28_5); clear hcl28 hcc28 hfr28 hM28) | ((with_reducible refine gate_store (t := 4) (p := 37) rfl ?_); refine store_event (t := 4) (p := 37) (v := ?vo_w29) (w1 := (w27.setCell ⟨go17, (x9_1 : Int).toNat * 6 + 5, none⟩ (.bool false))) ?hg ?ho ?hn ?hr ?_; (case ho => rfl); (case hg => rfl); (case hn => rfl); (case hr => first | (go_simp; done) | (go_simp; rfl)); intro w29 hw; have hg : w27.grownBy w29 (some go17) := (by rw [hw]; exact HP28.2); have hp_ : Kd.R k44 44 w29 w.heap.size (fun _ => True) (.slice (some ⟨go17, 0, none⟩) x7_1.length co25) y496 := (by rw [hw, Ny496.out]; exact HP28.1); clear HP28; replace BK486 := Aside0.mk (blk_grown (bx BK486) hg (by first | exact Kd.R_ne HO_7.out BK486.out (by decide) | exact (fun e => by have z := And.left HO_7.out _ e.symm; simp at z))); replace BK487 := Aside0.mk (blk_grown (bx BK487) hg (by first | exact Kd.R_ne HO_7.out BK487.out (by decide) | exact (fun e => by have z := And.left HO_7.out _ e.symm; simp at z))); replace HO_7 := Aside0.mk (hp_); replace HB := Aside0.mk ((by rw [hw]; exact below_set (HB.out) GB17.out : Below w.heap.size w w29)); clear hg hw hp_; have p497 : 0 ≤ (x9_1 : Int) := of_decide_eq_true (by first | (with_reducible assumption) | assumption); have q497 : x9_1 < (y496.length : Int) := (by have h_ : (x9_1 : Int) < ((x7_1.length : Int) : Int) := of_decide_eq_true (by first | (with_reducible assumption) | assumption); first | (have e_ := (Kd.R_reads' HO_7.out).1; omega) | simpa only [Ny495.out, Ny496.out, List.length_set] using h_); have ql497 : ((x9_1 : Int) < ((x7_1.length : Int) : Int)) = True := eq_true (of_decide_eq_true (by first | (with_reducible assumption) | assumption)); obtain ⟨ad497, e497, hx497_0, hx497_1, hx497_2, hx497_3, hx497_4, hx497_5⟩ := at_T44 (Kd.R_reads' HO_7.out).2.2 x9_1 p497 q497; obtain rfl : (⟨go17, 0, none⟩ : Addr) = ad497 := (by injection e497); (first | simp only [add_plain] at hx497_0 | simp only [add_at] at hx497_0 | simp only [Addr.add, Nat.zero_add] at hx497_0 | skip); (first | simp only [add_plain] at hx497_1 | simp only [add_at] at hx497_1 | simp only [Addr.add, Nat.zero_add] at hx497_1 | skip); (first | simp only [add_plain] at hx497_2 | simp only [add_at] at hx497_2 | simp only [Addr.add, Nat.zero_add] at hx497_2 | skip); (first | simp only [add_plain] at hx497_3 | simp only [add_at] at hx497_3 | simp only [Addr.add, Nat.zero_add] at hx497_3 | skip); (first | simp only [add_plain] at hx497_4 | simp only [add_at] at hx497_4 | simp only [Addr.add, Nat.zero_add] at hx497_4 | skip); (first | simp only [add_plain] at hx497_5 | simp only [add_at] at hx497_5 | simp only [Addr.add, Nat.zero_add] at hx497_5 | skip); replace p497 := eq_true p497; replace q497 := eq_true q497))
                go_roundg k1
                case measure => have := HK1.out; omega
                case rel => exact ⟨(y496), (x8_1), (wrap64 (x9_1 + 1)), (by first | rfl | (simp; done) | (simp [*]; done)), (by first | rfl | (simp; done) | (simp [*]; done)), H', ⟨by have := HK1.out; omega⟩, ⟨by (with_reducible repeat (first | apply Kd.R_alloc | apply Kd.R_drewN | apply Kd.R_drew)); exact HO_7.out⟩, ⟨by (with_reducible repeat (first | refine blk_drewN ?_ _ | refine blk_drew ?_ | refine blk_alloc ?_ _)); exact BK486.out⟩, ⟨by (with_reducible repeat (first | refine blk_drewN ?_ _ | refine blk_drew ?_ | refine blk_alloc ?_ _)); exact BK487.out⟩, ⟨by repeat (first | (with_reducible first | exact HB.out | apply below_alloc | apply pw_below_drewN | apply below_drew1 | refine below_set ?_ GE486.out | refine below_set ?_ GE487.out) | exact HB.out)⟩⟩
            · rw [if_neg c16] at H
              exact absurd H (by simp)
          · rw [if_neg c15] at H
            have c15b0 : decide (x9_1 < (x7_1.length : Int)) = false := decide_eq_false c15
            clear c15
            replace H := Option.bind_eq_some_iff.mp H
            obtain ⟨⟨t498, t501⟩, A300, H⟩ := H
            replace H : (if t501 = 0 then (stickfullaw14_FillForced.j1 k1 l0 ((t498.length : Int) != (wrap64 (x8_1 + 1))) a1_0 a1_1 a2_0 a2_1) else (stickfullaw14_FillForced.j1 k1 l0 false a1_0 a1_1 a2_0 a2_1)) = some r := H
            have A30 := Aside0.mk A300
            clear A300
            have HC31 := Aside0.mk H
            clear H
            obtain ⟨Ao32, co32, eo32⟩ := Kd.R_slice HO_7.out
            subst eo32
            have hnb33 := NB486_487.out
            have hnc33 := NB487_486.out
            obtain ⟨hcz34_0, hcz34_1⟩ := cz2 BK486
            obtain ⟨hfz34_0, hfz34_1⟩ := fz2 BK486
            obtain ⟨hcz35_0, hcz35_1⟩ := cz2 BK487
            obtain ⟨hfz35_0, hfz35_1⟩ := fz2 BK487
            go_upto_region 13 with (first | ((with_reducible refine gate_callee (f := 9) rfl ?_); refine goesB (some 50) rfl rfl Try.func9 #[.slice Ao32 x7_1.length co32, .agg #[.int .i64 a1_0, .int .i64 a1_1], .agg #[.int .i64 a2_0, .int .i64 a2_1]] rfl ?_; (with_reducible refine (fill_Lines.calls k1 _ _ x7_1 a1_0 a1_1 a2_0 a2_1 t498 t501 _ ?side1 ?side2 A30.out).mono ?_); (case side1 => repeat (first | exact (Kd.R_reads' HO_7.out).2.2 | (with_reducible refine Kd.C_alloc ?_ _) | (with_reducible refine Kd.C_drewN ?_ _) | (with_reducible refine Kd.C_drew ?_))); (case side2 => exact (Kd.R_reads' HO_7.out).2.1); rintro e w36 ⟨v499, rfl, ho0, hb⟩; refine ⟨_, rfl, ?_⟩; replace HO_7 := Aside0.mk (Kd.R_below (rx HO_7) hb); have HO500 := Aside0.mk (Kd.R_lower ho0 (below_size (bw HB))); replace BK486 := bb BK486 hb; replace BK487 := bb BK487 hb; replace HB := bh HB hb; (try clear hb); (try clear hb2); (try clear hk); (try clear hi); (try clear ho0)))
            (try simp only [Act.put, List.setIfInBounds_toArray, List.set_cons_zero, List.set_cons_succ])
            go_cut [61] (fun v61 wc => ∃ (kq : Nat) (x61_30 : Bool), v61 = .bool x61_30 ∧ Aside0 (stickfullaw14_FillForced.j1 kq l0 x61_30 a1_0 a1_1 a2_0 a2_1 = some r) ∧ Aside0 (kq ≤ k1) ∧ Aside0 (wc.heap[gb486]? = some (.cells #[.int .i64 a1_0, .int .i64 a1_1] 24 (0, 0))) ∧ Aside0 (wc.heap[gb487]? = some (.cells #[.int .i64 a2_0, .int .i64 a2_1] 24 (0, 0))) ∧ Aside0 (Below w.heap.size w wc))
            case first =>
              have H := HC31.out
              clear HC31
              by_cases c37 : t501 = 0
              · rw [if_pos c37] at H
                have c37b0 : (t501 == 0) = true := beq_iff_eq.mpr c37
                have c37b1 : (t501 != 0) = false := bne_eq_false_iff_eq.mpr c37
                clear c37
                (first | rw [c37b0] | (simp only [i64_w, i32_w]; rw [c37b0]) | skip)
                have H' := Aside0.mk H
                clear H
                obtain ⟨Ao38, co38, eo38⟩ := Kd.R_slice HO500.out
                subst eo38
                go_wp2
                go_meet
                case rel => exact ⟨_, (((t498.length : Int) != (wrap64 (x8_1 + 1)))), (by first | rfl | (simp; done) | (simp [*]; done)), H', ⟨by have := HK1.out; first | omega | exact Nat.le_refl _⟩, ⟨by (with_reducible repeat (first | refine blk_drewN ?_ _ | refine blk_drew ?_ | refine blk_alloc ?_ _)); exact BK486.out⟩, ⟨by (with_reducible repeat (first | refine blk_drewN ?_ _ | refine blk_drew ?_ | refine blk_alloc ?_ _)); exact BK487.out⟩, ⟨by repeat (first | (with_reducible first | exact HB.out | apply below_alloc | apply pw_below_drewN | apply below_drew1 | refine below_set ?_ GE486.out | refine below_set ?_ GE487.out) | exact HB.out)⟩⟩
              · rw [if_neg c37] at H
                have c37b0 : (t501 == 0) = false := beq_eq_false_iff_ne.mpr c37
                have c37b1 : (t501 != 0) = true := bne_iff_ne.mpr c37
                (first | rw [c37b0] | (simp only [i64_w, i32_w]; rw [c37b0]) | skip)
                have H' := Aside0.mk H
                clear H
                go_wp2
                go_meet
                case rel => exact ⟨_, (false), (by first | rfl | (simp; done) | (simp [*]; done)), H', ⟨by have := HK1.out; first | omega | exact Nat.le_refl _⟩, ⟨by (with_reducible repeat (first | refine blk_drewN ?_ _ | refine blk_drew ?_ | refine blk_alloc ?_ _)); exact BK486.out⟩, ⟨by (with_reducible repeat (first | refine blk_drewN ?_ _ | refine blk_drew ?_ | refine blk_alloc ?_ _)); exact BK487.out⟩, ⟨by repeat (first | (with_reducible first | exact HB.out | apply below_alloc | apply pw_below_drewN | apply below_drew1 | refine below_set ?_ GE486.out | refine below_set ?_ GE487.out) | exact HB.out)⟩⟩
            case rest =>
              clear HC31
              try clear c1
              try clear p1
              try clear q1
              try clear hx1
              try clear c2
              try clear p2
              try clear hx2
              try clear c3
              try clear c4
              try clear c4b0
              try clear c4b1
              try clear p4
              try clear q4
              try clear hx4
              try clear c6
              try clear p6
              try clear c8
              try clear c9
              try clear c15
              try clear c15b0
              try clear c16
              try clear c16b0
              try clear c17
              try clear p17
              try clear q17
              try clear hx17
              try clear hf17
              try clear c18
              try clear p18
              try clear q18
              try clear hx18
              try clear hf18
              try clear c19
              try clear c19b0
              try clear c19b1
              try clear c21
              try clear hx21
              try clear hf21
              try clear c23
              try clear hx23
              try clear hf23
              try clear c26
              try clear hx26
              try clear hf26
              try clear c28
              try clear hx28
              try clear hf28
              try clear c33
              try clear c37
              try clear c37b0
              try clear c37b1
              try clear hcz34_0
              try clear hcz34_1
              try clear hcz35_0
              try clear hcz35_1
              try clear hfz34_0
              try clear hfz34_1
              try clear hfz35_0
              try clear hfz35_1
              try clear hx17_0
              try clear hx17_1
              try clear hx17_2
              try clear hx17_3
              try clear hx17_4
              try clear hx17_5
              try clear hx18_0
              try clear hx18_1
              try clear hx18_2
              try clear hx18_3
              try clear hx18_4
              try clear hx18_5
              try clear hx21_4
              try clear hx23_5
              try clear hx26_4
              try clear hx28_5
              try clear hx497_0
              try clear hx497_1
              try clear hx497_2
              try clear hx497_3
              try clear hx497_4
              try clear hx497_5
              try clear p17
              try clear p18
              try clear p2
              try clear p497
              try clear q17
              try clear q18
              try clear q497
              obtain ⟨kq, x61_30, rfl, HA, HJ30, BK486, BK487, HB⟩ := hcut
              cases kq with
              | zero => exact absurd HA.out (by simp [stickfullaw14_FillForced.j1])
              | succ kj30 =>
                have H := HA.out
                clear HA
                simp only [stickfullaw14_FillForced.j1] at H
                by_cases c39 : x61_30 = true
                · subst c39
                  have H1 : (some false) = some r := by rw [if_pos rfl] at H; exact H
                  clear H
                  have H := H1
                  clear H1
                  exact absurd ((Option.some.inj H).trans HR_.out) (by decide)
                · replace c39 := Bool.eq_false_iff.mpr c39
                  subst c39
                  have H1 : ((fill_One.f kj30 l0 0 a1_0 a1_1).bind fun bt502 => ((fill_One.f kj30 l0 0 (mx a1_0 (wrap64 (a1_0 + a2_0))) a1_1).bind fun bt508 => (if bt502.2.2.2 = 0 then (if bt508.2.2.2 = 0 then (if a2_0 < 0 then ((stickfullaw14_head.f kj30).bind fun t513 => (some t513)) else (if bt508.2.1 ≥ bt502.2.1 then ((stickfullaw14_head.f kj30).bind fun t514 => (some t514)) else (some false))) else ((stickfullaw14_head.f kj30).bind fun t515 => (some t515))) else ((stickfullaw14_head.f kj30).bind fun t516 => (some t516))))) = some r := by rw [if_neg (show ¬ (false = true) by decide)] at H; exact H
                  clear H
                  have H := H1
                  clear H1
                  replace H := Option.bind_eq_some_iff.mp H
                  obtain ⟨⟨t502, t503, t504, t505⟩, A400, H⟩ := H
                  replace H : ((fill_One.f kj30 l0 0 (mx a1_0 (wrap64 (a1_0 + a2_0))) a1_1).bind fun bt508 => (if t505 = 0 then (if bt508.2.2.2 = 0 then (if a2_0 < 0 then ((stickfullaw14_head.f kj30).bind fun t513 => (some t513)) else (if bt508.2.1 ≥ t503 then ((stickfullaw14_head.f kj30).bind fun t514 => (some t514)) else (some false))) else ((stickfullaw14_head.f kj30).bind fun t515 => (some t515))) else ((stickfullaw14_head.f kj30).bind fun t516 => (some t516)))) = some r := H
                  have A40 := Aside0.mk A400
                  clear A400
                  obtain ⟨ji41, hji41⟩ : ∃ j_ : Int, (mx a1_0 (wrap64 (a1_0 + a2_0))) = j_ := ⟨_, rfl⟩
                  replace H : ((fill_One.f kj30 l0 0 (ji41) a1_1).bind fun bt508 => (if t505 = 0 then (if bt508.2.2.2 = 0 then (if a2_0 < 0 then ((stickfullaw14_head.f kj30).bind fun t513 => (some t513)) else (if bt508.2.1 ≥ t503 then ((stickfullaw14_head.f kj30).bind fun t514 => (some t514)) else (some false))) else ((stickfullaw14_head.f kj30).bind fun t515 => (some t515))) else ((stickfullaw14_head.f kj30).bind fun t516 => (some t516)))) = some r := by first | (rw [hji41] at H; exact H) | (simp only [hji41] at H ⊢; exact H)
                  (try rw [hji41] at A40)
                  have hji41_ : (if a1_0 < (wrap64 (a1_0 + a2_0)) then (wrap64 (a1_0 + a2_0)) else a1_0) = ji41 := hji41
                  replace H := Option.bind_eq_some_iff.mp H
                  obtain ⟨⟨t508, t509, t510, t511⟩, A420, H⟩ := H
                  replace H : (if t505 = 0 then (if t511 = 0 then (if a2_0 < 0 then ((stickfullaw14_head.f kj30).bind fun t513 => (some t513)) else (if t509 ≥ t503 then ((stickfullaw14_head.f kj30).bind fun t514 => (some t514)) else (some false))) else ((stickfullaw14_head.f kj30).bind fun t515 => (some t515))) else ((stickfullaw14_head.f kj30).bind fun t516 => (some t516))) = some r := H
                  have A42 := Aside0.mk A420
                  clear A420
                  by_cases c43 : t505 = 0
                  · rw [if_pos c43] at H
                    have c43b0 : (t505 == 0) = true := beq_iff_eq.mpr c43
                    have c43b1 : (t505 != 0) = false := bne_eq_false_iff_eq.mpr c43
                    clear c43
                    by_cases c44 : t511 = 0
                    · rw [if_pos c44] at H
                      have c44b0 : (t511 == 0) = true := beq_iff_eq.mpr c44
                      have c44b1 : (t511 != 0) = false := bne_eq_false_iff_eq.mpr c44
                      clear c44
                      by_cases c45 : a2_0 < 0
                      · rw [if_pos c45] at H
                        have c45b0 : decide (a2_0 < 0) = true := decide_eq_true c45
                        clear c45
                        replace H := Option.bind_eq_some_iff.mp H
                        obtain ⟨t513, A460, H⟩ := H
                        replace H : (some t513) = some r := H
                        have A46 := Aside0.mk A460
                        clear A460
                        obtain rfl := Option.some.inj H
                        have hnb47 := NB486_487.out
                        have hnc47 := NB487_486.out
                        obtain ⟨hcz48_0, hcz48_1⟩ := cz2 BK486
                        obtain ⟨hfz48_0, hfz48_1⟩ := fz2 BK486
                        go_wp2_with (first | ((with_reducible refine gate_callee (f := 16) rfl ?_); refine goesB (some 65) rfl rfl Try.func16 #[.slice A0 l0.length c0, .int .i64 0, .agg #[.int .i64 a1_0, .int .i64 a1_1]] rfl ?_; (with_reducible refine (fill_One.calls kj30 _ _ l0 0 a1_0 a1_1 t502 t503 t504 t505 _ ?side1 ?side2 A40.out).mono ?_); (case side1 => repeat (first | exact (Kd.C_below HR0.out HB.out) | (with_reducible refine Kd.C_alloc ?_ _) | (with_reducible refine Kd.C_drewN ?_ _) | (with_reducible refine Kd.C_drew ?_))); (case side2 => exact HC0.out); rintro e w49 ⟨rfl, hb⟩; refine ⟨_, rfl, ?_⟩; replace BK486 := bb BK486 hb; replace BK487 := bb BK487 hb; replace HB := bh HB hb; (try clear hb); (try clear hb2); (try clear hk); (try clear hi)) | ((with_reducible refine gate_dst (N := 12) rfl ?_); (try (refine gate_guard (by rfl) ?_; dsimp only)); refine box_event ?hg (N := 12) ?hd (cs := #[.int .i64 0, .int .i64 0, .bool false]) (t := 35) ?hr ?_; (case hd => rfl); (case hg => rfl); (case hr => first | (go_simp; done) | (go_simp; rfl)); intro gb506 hg w50 hbox hb; have BK506 := Aside0.mk (hbox); have GW506 := bge HB hg; have GE506 := bge HB hg; replace HB := bh HB hb; have NB486_506 := nbl BK486 hg; have NB506_486 := nbg BK486 hg; replace BK486 := bb BK486 hb; have NB487_506 := nbl BK487 hg; have NB506_487 := nbg BK487 hg; replace BK487 := bb BK487 hb; clear hb hbox hg; have hnb51 := NB506_486.out; have hnc51 := NB486_506.out; have hnb52 := NB506_487.out; have hnc52 := NB487_506.out; obtain ⟨hcz53_0, hcz53_1, hcz53_2⟩ := cz3 BK506; obtain ⟨hfz53_0, hfz53_1, hfz53_2⟩ := fz3 BK506; obtain ⟨hcz54_0, hcz54_1⟩ := cz2 BK486; obtain ⟨hfz54_0, hfz54_1⟩ := fz2 BK486; obtain ⟨hcz55_0, hcz55_1⟩ := cz2 BK487; obtain ⟨hfz55_0, hfz55_1⟩ := fz2 BK487) | ((with_reducible refine gate_dst (N := 14) rfl ?_); (try (refine gate_guard (by rfl) ?_; dsimp only)); refine box_event ?hg (N := 14) ?hd (cs := #[.int .i64 0, .int .i64 0]) (t := 24) ?hr ?_; (case hd => rfl); (case hg => rfl); (case hr => first | (go_simp; done) | (go_simp; rfl)); intro gb507 hg w56 hbox hb; have BK507 := Aside0.mk (hbox); have GW507 := bge HB hg; have GE507 := bge HB hg; replace HB := bh HB hb; have NB486_507 := nbl BK486 hg; have NB507_486 := nbg BK486 hg; replace BK486 := bb BK486 hb; have NB487_507 := nbl BK487 hg; have NB507_487 := nbg BK487 hg; replace BK487 := bb BK487 hb; have NB506_507 := Aside0.mk ((by rw [hg]; exact Nat.ne_of_lt (blk_lt (o := .cells #[.int .i64 t502, .int .i64 t503, .bool t504] 35 (0, 0)) (bp BK506)) : gb506 ≠ gb507)); have NB507_506 := Aside0.mk ((by rw [hg]; exact Nat.ne_of_gt (blk_lt (o := .cells #[.int .i64 t502, .int .i64 t503, .bool t504] 35 (0, 0)) (bp BK506)) : gb507 ≠ gb506)); replace BK506 := Aside0.mk (blk_below (o := .cells #[.int .i64 t502, .int .i64 t503, .bool t504] 35 (0, 0)) (bp BK506) hb); clear hb hbox hg; have hnb57 := NB507_486.out; have hnc57 := NB486_507.out; have hnb58 := NB507_487.out; have hnc58 := NB487_507.out; have hnb59 := NB507_506.out; have hnc59 := NB506_507.out; obtain ⟨hcz60_0, hcz60_1⟩ := cz2 BK507; obtain ⟨hfz60_0, hfz60_1⟩ := fz2 BK507) | ((with_reducible refine gate_callee (f := 16) rfl ?_); refine goesL_ (some 82) rfl rfl Try.func16 (by kernel_rfl) rfl #[.slice A0 l0.length c0, .int .i64 0, .agg #[.int .i64 ji41, .int .i64 a1_1]] rfl (by (try simp only [List.map_toArray, List.map_cons, List.map_nil]); first | done | (simp only [hji41]; rfl) | rfl | (simp only [List.length_drop, List.length_take]; rfl)) ?_; (with_reducible refine (fill_One.calls kj30 _ _ l0 0 ji41 a1_1 t508 t509 t510 t511 _ ?side1 ?side2 A42.out).mono ?_); (case side1 => exact Kd.C_below HR0.out (bw HB)); (case side2 => exact HC0.out); rintro e w61 ⟨rfl, hb⟩; refine ⟨_, rfl, ?_⟩; replace BK486 := bb BK486 hb; replace BK487 := bb BK487 hb; replace BK506 := bb BK506 hb; replace BK507 := Aside0.mk (blk_below (o := .cells #[.int .i64 ji41, .int .i64 a1_1] 24 (0, 0)) (bp BK507) hb); replace HB := bh HB hb; (try clear hb); (try clear hb2); (try clear hk); (try clear hi)) | ((with_reducible refine gate_dst (N := 15) rfl ?_); (try (refine gate_guard (by rfl) ?_; dsimp only)); refine box_event ?hg (N := 15) ?hd (cs := #[.int .i64 0, .int .i64 0, .bool false]) (t := 35) ?hr ?_; (case hd => rfl); (case hg => rfl); (case hr => first | (go_simp; done) | (go_simp; rfl)); intro gb512 hg w62 hbox hb; have BK512 := Aside0.mk (hbox); have GW512 := bge HB hg; have GE512 := bge HB hg; replace HB := bh HB hb; have NB486_512 := nbl BK486 hg; have NB512_486 := nbg BK486 hg; replace BK486 := bb BK486 hb; have NB487_512 := nbl BK487 hg; have NB512_487 := nbg BK487 hg; replace BK487 := bb BK487 hb; have NB506_512 := nbl BK506 hg; have NB512_506 := nbg BK506 hg; replace BK506 := bb BK506 hb; have NB507_512 := nbl BK507 hg; have NB512_507 := nbg BK507 hg; replace BK507 := bb BK507 hb; clear hb hbox hg; have hnb63 := NB512_486.out; have hnc63 := NB486_512.out; have hnb64 := NB512_487.out; have hnc64 := NB487_512.out; have hnb65 := NB512_506.out; have hnc65 := NB506_512.out; have hnb66 := NB512_507.out; have hnc66 := NB507_512.out; obtain ⟨hcz67_0, hcz67_1, hcz67_2⟩ := cz3 BK512; obtain ⟨hfz67_0, hfz67_1, hfz67_2⟩ := fz3 BK512; obtain ⟨hcz68_0, hcz68_1⟩ := cz2 BK487; obtain ⟨hfz68_0, hfz68_1⟩ := fz2 BK487) | (go_at_call 8; (with_reducible refine (stickfullaw14_head.calls kj30  t513 _ A46.out).mono ?_); rintro e w69 ⟨rfl, hb⟩; replace BK486 := bb BK486 hb; replace BK487 := bb BK487 hb; replace BK506 := bb BK506 hb; replace BK507 := bb BK507 hb; replace BK512 := Aside0.mk (blk_below (o := .cells #[.int .i64 t508, .int .i64 t509, .bool t510] 35 (0, 0)) (bp BK512) hb); replace HB := bh HB hb; (try clear hb); (try clear hb2); (try clear hk); (try clear hi)))
                        go_ret
                        exact ⟨by first | rfl | (simp [errW_none, errW_some] <;> rfl) | (simp only [← hji41]; first | rfl | (simp [errW_none, errW_some] <;> rfl)) | (simp [*, errW_none, errW_some] <;> rfl), by repeat (first | (with_reducible first | exact HB.out | apply below_alloc | apply pw_below_drewN | apply below_drew1 | refine below_set ?_ GE486.out | refine below_set ?_ GE487.out | refine below_set ?_ GE506.out | refine below_set ?_ GE507.out | refine below_set ?_ GE512.out) | exact HB.out)⟩
                      · rw [if_neg c45] at H
                        have c45b0 : decide (a2_0 < 0) = false := decide_eq_false c45
                        clear c45
                        by_cases c70 : t509 ≥ t503
                        · rw [if_pos c70] at H
                          have c70b0 : decide (t503 ≤ t509) = true := decide_eq_true c70
                          clear c70
                          replace H := Option.bind_eq_some_iff.mp H
                          obtain ⟨t514, A710, H⟩ := H
                          replace H : (some t514) = some r := H
                          have A71 := Aside0.mk A710
                          clear A710
                          obtain rfl := Option.some.inj H
                          have hnb72 := NB486_487.out
                          have hnc72 := NB487_486.out
                          obtain ⟨hcz73_0, hcz73_1⟩ := cz2 BK486
                          obtain ⟨hfz73_0, hfz73_1⟩ := fz2 BK486
                          go_wp2_with (first | ((with_reducible refine gate_callee (f := 16) rfl ?_); refine goesB (some 65) rfl rfl Try.func16 #[.slice A0 l0.length c0, .int .i64 0, .agg #[.int .i64 a1_0, .int .i64 a1_1]] rfl ?_; (with_reducible refine (fill_One.calls kj30 _ _ l0 0 a1_0 a1_1 t502 t503 t504 t505 _ ?side1 ?side2 A40.out).mono ?_); (case side1 => repeat (first | exact (Kd.C_below HR0.out HB.out) | (with_reducible refine Kd.C_alloc ?_ _) | (with_reducible refine Kd.C_drewN ?_ _) | (with_reducible refine Kd.C_drew ?_))); (case side2 => exact HC0.out); rintro e w74 ⟨rfl, hb⟩; refine ⟨_, rfl, ?_⟩; replace BK486 := bb BK486 hb; replace BK487 := bb BK487 hb; replace HB := bh HB hb; (try clear hb); (try clear hb2); (try clear hk); (try clear hi)) | ((with_reducible refine gate_dst (N := 12) rfl ?_); (try (refine gate_guard (by rfl) ?_; dsimp only)); refine box_event ?hg (N := 12) ?hd (cs := #[.int .i64 0, .int .i64 0, .bool false]) (t := 35) ?hr ?_; (case hd => rfl); (case hg => rfl); (case hr => first | (go_simp; done) | (go_simp; rfl)); intro gb506 hg w75 hbox hb; have BK506 := Aside0.mk (hbox); have GW506 := bge HB hg; have GE506 := bge HB hg; replace HB := bh HB hb; have NB486_506 := nbl BK486 hg; have NB506_486 := nbg BK486 hg; replace BK486 := bb BK486 hb; have NB487_506 := nbl BK487 hg; have NB506_487 := nbg BK487 hg; replace BK487 := bb BK487 hb; clear hb hbox hg; have hnb76 := NB506_486.out; have hnc76 := NB486_506.out; have hnb77 := NB506_487.out; have hnc77 := NB487_506.out; obtain ⟨hcz78_0, hcz78_1, hcz78_2⟩ := cz3 BK506; obtain ⟨hfz78_0, hfz78_1, hfz78_2⟩ := fz3 BK506; obtain ⟨hcz79_0, hcz79_1⟩ := cz2 BK486; obtain ⟨hfz79_0, hfz79_1⟩ := fz2 BK486; obtain ⟨hcz80_0, hcz80_1⟩ := cz2 BK487; obtain ⟨hfz80_0, hfz80_1⟩ := fz2 BK487) | ((with_reducible refine gate_dst (N := 14) rfl ?_); (try (refine gate_guard (by rfl) ?_; dsimp only)); refine box_event ?hg (N := 14) ?hd (cs := #[.int .i64 0, .int .i64 0]) (t := 24) ?hr ?_; (case hd => rfl); (case hg => rfl); (case hr => first | (go_simp; done) | (go_simp; rfl)); intro gb507 hg w81 hbox hb; have BK507 := Aside0.mk (hbox); have GW507 := bge HB hg; have GE507 := bge HB hg; replace HB := bh HB hb; have NB486_507 := nbl BK486 hg; have NB507_486 := nbg BK486 hg; replace BK486 := bb BK486 hb; have NB487_507 := nbl BK487 hg; have NB507_487 := nbg BK487 hg; replace BK487 := bb BK487 hb; have NB506_507 := Aside0.mk ((by rw [hg]; exact Nat.ne_of_lt (blk_lt (o := .cells #[.int .i64 t502, .int .i64 t503, .bool t504] 35 (0, 0)) (bp BK506)) : gb506 ≠ gb507)); have NB507_506 := Aside0.mk ((by rw [hg]; exact Nat.ne_of_gt (blk_lt (o := .cells #[.int .i64 t502, .int .i64 t503, .bool t504] 35 (0, 0)) (bp BK506)) : gb507 ≠ gb506)); replace BK506 := Aside0.mk (blk_below (o := .cells #[.int .i64 t502, .int .i64 t503, .bool t504] 35 (0, 0)) (bp BK506) hb); clear hb hbox hg; have hnb82 := NB507_486.out; have hnc82 := NB486_507.out; have hnb83 := NB507_487.out; have hnc83 := NB487_507.out; have hnb84 := NB507_506.out; have hnc84 := NB506_507.out; obtain ⟨hcz85_0, hcz85_1⟩ := cz2 BK507; obtain ⟨hfz85_0, hfz85_1⟩ := fz2 BK507) | ((with_reducible refine gate_callee (f := 16) rfl ?_); refine goesL_ (some 82) rfl rfl Try.func16 (by kernel_rfl) rfl #[.slice A0 l0.length c0, .int .i64 0, .agg #[.int .i64 ji41, .int .i64 a1_1]] rfl (by (try simp only [List.map_toArray, List.map_cons, List.map_nil]); first | done | (simp only [hji41]; rfl) | rfl | (simp only [List.length_drop, List.length_take]; rfl)) ?_; (with_reducible refine (fill_One.calls kj30 _ _ l0 0 ji41 a1_1 t508 t509 t510 t511 _ ?side1 ?side2 A42.out).mono ?_); (case side1 => exact Kd.C_below HR0.out (bw HB)); (case side2 => exact HC0.out); rintro e w86 ⟨rfl, hb⟩; refine ⟨_, rfl, ?_⟩; replace BK486 := bb BK486 hb; replace BK487 := bb BK487 hb; replace BK506 := bb BK506 hb; replace BK507 := Aside0.mk (blk_below (o := .cells #[.int .i64 ji41, .int .i64 a1_1] 24 (0, 0)) (bp BK507) hb); replace HB := bh HB hb; (try clear hb); (try clear hb2); (try clear hk); (try clear hi)) | ((with_reducible refine gate_dst (N := 15) rfl ?_); (try (refine gate_guard (by rfl) ?_; dsimp only)); refine box_event ?hg (N := 15) ?hd (cs := #[.int .i64 0, .int .i64 0, .bool false]) (t := 35) ?hr ?_; (case hd => rfl); (case hg => rfl); (case hr => first | (go_simp; done) | (go_simp; rfl)); intro gb512 hg w87 hbox hb; have BK512 := Aside0.mk (hbox); have GW512 := bge HB hg; have GE512 := bge HB hg; replace HB := bh HB hb; have NB486_512 := nbl BK486 hg; have NB512_486 := nbg BK486 hg; replace BK486 := bb BK486 hb; have NB487_512 := nbl BK487 hg; have NB512_487 := nbg BK487 hg; replace BK487 := bb BK487 hb; have NB506_512 := nbl BK506 hg; have NB512_506 := nbg BK506 hg; replace BK506 := bb BK506 hb; have NB507_512 := nbl BK507 hg; have NB512_507 := nbg BK507 hg; replace BK507 := bb BK507 hb; clear hb hbox hg; have hnb88 := NB512_486.out; have hnc88 := NB486_512.out; have hnb89 := NB512_487.out; have hnc89 := NB487_512.out; have hnb90 := NB512_506.out; have hnc90 := NB506_512.out; have hnb91 := NB512_507.out; have hnc91 := NB507_512.out; obtain ⟨hcz92_0, hcz92_1, hcz92_2⟩ := cz3 BK512; obtain ⟨hfz92_0, hfz92_1, hfz92_2⟩ := fz3 BK512; obtain ⟨hcz93_0, hcz93_1⟩ := cz2 BK487; obtain ⟨hfz93_0, hfz93_1⟩ := fz2 BK487; obtain ⟨hcz94_0, hcz94_1, hcz94_2⟩ := cz3 BK506; obtain ⟨hfz94_0, hfz94_1, hfz94_2⟩ := fz3 BK506) | (go_at_call 8; (with_reducible refine (stickfullaw14_head.calls kj30  t514 _ A71.out).mono ?_); rintro e w95 ⟨rfl, hb⟩; replace BK486 := bb BK486 hb; replace BK487 := bb BK487 hb; replace BK506 := bb BK506 hb; replace BK507 := bb BK507 hb; replace BK512 := Aside0.mk (blk_below (o := .cells #[.int .i64 t508, .int .i64 t509, .bool t510] 35 (0, 0)) (bp BK512) hb); replace HB := bh HB hb; (try clear hb); (try clear hb2); (try clear hk); (try clear hi)))
                          go_ret
                          exact ⟨by first | rfl | (simp [errW_none, errW_some] <;> rfl) | (simp only [← hji41]; first | rfl | (simp [errW_none, errW_some] <;> rfl)) | (simp [*, errW_none, errW_some] <;> rfl), by repeat (first | (with_reducible first | exact HB.out | apply below_alloc | apply pw_below_drewN | apply below_drew1 | refine below_set ?_ GE486.out | refine below_set ?_ GE487.out | refine below_set ?_ GE506.out | refine below_set ?_ GE507.out | refine below_set ?_ GE512.out) | exact HB.out)⟩
                        · rw [if_neg c70] at H
                          have c70b0 : decide (t503 ≤ t509) = false := decide_eq_false c70
                          clear c70
                          exact absurd ((Option.some.inj H).trans HR_.out) (by decide)
                    · rw [if_neg c44] at H
                      have c44b0 : (t511 == 0) = false := beq_eq_false_iff_ne.mpr c44
                      have c44b1 : (t511 != 0) = true := bne_iff_ne.mpr c44
                      replace H := Option.bind_eq_some_iff.mp H
                      obtain ⟨t515, A960, H⟩ := H
                      replace H : (some t515) = some r := H
                      have A96 := Aside0.mk A960
                      clear A960
                      obtain rfl := Option.some.inj H
                      have hnb97 := NB486_487.out
                      have hnc97 := NB487_486.out
                      obtain ⟨hcz98_0, hcz98_1⟩ := cz2 BK486
                      obtain ⟨hfz98_0, hfz98_1⟩ := fz2 BK486
                      go_wp2_with (first | ((with_reducible refine gate_callee (f := 16) rfl ?_); refine goesB (some 65) rfl rfl Try.func16 #[.slice A0 l0.length c0, .int .i64 0, .agg #[.int .i64 a1_0, .int .i64 a1_1]] rfl ?_; (with_reducible refine (fill_One.calls kj30 _ _ l0 0 a1_0 a1_1 t502 t503 t504 t505 _ ?side1 ?side2 A40.out).mono ?_); (case side1 => repeat (first | exact (Kd.C_below HR0.out HB.out) | (with_reducible refine Kd.C_alloc ?_ _) | (with_reducible refine Kd.C_drewN ?_ _) | (with_reducible refine Kd.C_drew ?_))); (case side2 => exact HC0.out); rintro e w99 ⟨rfl, hb⟩; refine ⟨_, rfl, ?_⟩; replace BK486 := bb BK486 hb; replace BK487 := bb BK487 hb; replace HB := bh HB hb; (try clear hb); (try clear hb2); (try clear hk); (try clear hi)) | ((with_reducible refine gate_dst (N := 12) rfl ?_); (try (refine gate_guard (by rfl) ?_; dsimp only)); refine box_event ?hg (N := 12) ?hd (cs := #[.int .i64 0, .int .i64 0, .bool false]) (t := 35) ?hr ?_; (case hd => rfl); (case hg => rfl); (case hr => first | (go_simp; done) | (go_simp; rfl)); intro gb506 hg w100 hbox hb; have BK506 := Aside0.mk (hbox); have GW506 := bge HB hg; have GE506 := bge HB hg; replace HB := bh HB hb; have NB486_506 := nbl BK486 hg; have NB506_486 := nbg BK486 hg; replace BK486 := bb BK486 hb; have NB487_506 := nbl BK487 hg; have NB506_487 := nbg BK487 hg; replace BK487 := bb BK487 hb; clear hb hbox hg; have hnb101 := NB506_486.out; have hnc101 := NB486_506.out; have hnb102 := NB506_487.out; have hnc102 := NB487_506.out; obtain ⟨hcz103_0, hcz103_1, hcz103_2⟩ := cz3 BK506; obtain ⟨hfz103_0, hfz103_1, hfz103_2⟩ := fz3 BK506; obtain ⟨hcz104_0, hcz104_1⟩ := cz2 BK486; obtain ⟨hfz104_0, hfz104_1⟩ := fz2 BK486; obtain ⟨hcz105_0, hcz105_1⟩ := cz2 BK487; obtain ⟨hfz105_0, hfz105_1⟩ := fz2 BK487) | ((with_reducible refine gate_dst (N := 14) rfl ?_); (try (refine gate_guard (by rfl) ?_; dsimp only)); refine box_event ?hg (N := 14) ?hd (cs := #[.int .i64 0, .int .i64 0]) (t := 24) ?hr ?_; (case hd => rfl); (case hg => rfl); (case hr => first | (go_simp; done) | (go_simp; rfl)); intro gb507 hg w106 hbox hb; have BK507 := Aside0.mk (hbox); have GW507 := bge HB hg; have GE507 := bge HB hg; replace HB := bh HB hb; have NB486_507 := nbl BK486 hg; have NB507_486 := nbg BK486 hg; replace BK486 := bb BK486 hb; have NB487_507 := nbl BK487 hg; have NB507_487 := nbg BK487 hg; replace BK487 := bb BK487 hb; have NB506_507 := Aside0.mk ((by rw [hg]; exact Nat.ne_of_lt (blk_lt (o := .cells #[.int .i64 t502, .int .i64 t503, .bool t504] 35 (0, 0)) (bp BK506)) : gb506 ≠ gb507)); have NB507_506 := Aside0.mk ((by rw [hg]; exact Nat.ne_of_gt (blk_lt (o := .cells #[.int .i64 t502, .int .i64 t503, .bool t504] 35 (0, 0)) (bp BK506)) : gb507 ≠ gb506)); replace BK506 := Aside0.mk (blk_below (o := .cells #[.int .i64 t502, .int .i64 t503, .bool t504] 35 (0, 0)) (bp BK506) hb); clear hb hbox hg; have hnb107 := NB507_486.out; have hnc107 := NB486_507.out; have hnb108 := NB507_487.out; have hnc108 := NB487_507.out; have hnb109 := NB507_506.out; have hnc109 := NB506_507.out; obtain ⟨hcz110_0, hcz110_1⟩ := cz2 BK507; obtain ⟨hfz110_0, hfz110_1⟩ := fz2 BK507) | ((with_reducible refine gate_callee (f := 16) rfl ?_); refine goesL_ (some 82) rfl rfl Try.func16 (by kernel_rfl) rfl #[.slice A0 l0.length c0, .int .i64 0, .agg #[.int .i64 ji41, .int .i64 a1_1]] rfl (by (try simp only [List.map_toArray, List.map_cons, List.map_nil]); first | done | (simp only [hji41]; rfl) | rfl | (simp only [List.length_drop, List.length_take]; rfl)) ?_; (with_reducible refine (fill_One.calls kj30 _ _ l0 0 ji41 a1_1 t508 t509 t510 t511 _ ?side1 ?side2 A42.out).mono ?_); (case side1 => exact Kd.C_below HR0.out (bw HB)); (case side2 => exact HC0.out); rintro e w111 ⟨rfl, hb⟩; refine ⟨_, rfl, ?_⟩; replace BK486 := bb BK486 hb; replace BK487 := bb BK487 hb; replace BK506 := bb BK506 hb; replace BK507 := Aside0.mk (blk_below (o := .cells #[.int .i64 ji41, .int .i64 a1_1] 24 (0, 0)) (bp BK507) hb); replace HB := bh HB hb; (try clear hb); (try clear hb2); (try clear hk); (try clear hi)) | ((with_reducible refine gate_dst (N := 15) rfl ?_); (try (refine gate_guard (by rfl) ?_; dsimp only)); refine box_event ?hg (N := 15) ?hd (cs := #[.int .i64 0, .int .i64 0, .bool false]) (t := 35) ?hr ?_; (case hd => rfl); (case hg => rfl); (case hr => first | (go_simp; done) | (go_simp; rfl)); intro gb512 hg w112 hbox hb; have BK512 := Aside0.mk (hbox); have GW512 := bge HB hg; have GE512 := bge HB hg; replace HB := bh HB hb; have NB486_512 := nbl BK486 hg; have NB512_486 := nbg BK486 hg; replace BK486 := bb BK486 hb; have NB487_512 := nbl BK487 hg; have NB512_487 := nbg BK487 hg; replace BK487 := bb BK487 hb; have NB506_512 := nbl BK506 hg; have NB512_506 := nbg BK506 hg; replace BK506 := bb BK506 hb; have NB507_512 := nbl BK507 hg; have NB512_507 := nbg BK507 hg; replace BK507 := bb BK507 hb; clear hb hbox hg; have hnb113 := NB512_486.out; have hnc113 := NB486_512.out; have hnb114 := NB512_487.out; have hnc114 := NB487_512.out; have hnb115 := NB512_506.out; have hnc115 := NB506_512.out; have hnb116 := NB512_507.out; have hnc116 := NB507_512.out; obtain ⟨hcz117_0, hcz117_1, hcz117_2⟩ := cz3 BK512; obtain ⟨hfz117_0, hfz117_1, hfz117_2⟩ := fz3 BK512) | (go_at_call 8; (with_reducible refine (stickfullaw14_head.calls kj30  t515 _ A96.out).mono ?_); rintro e w118 ⟨rfl, hb⟩; replace BK486 := bb BK486 hb; replace BK487 := bb BK487 hb; replace BK506 := bb BK506 hb; replace BK507 := bb BK507 hb; replace BK512 := Aside0.mk (blk_below (o := .cells #[.int .i64 t508, .int .i64 t509, .bool t510] 35 (0, 0)) (bp BK512) hb); replace HB := bh HB hb; (try clear hb); (try clear hb2); (try clear hk); (try clear hi)))
                      go_ret
                      exact ⟨by first | rfl | (simp [errW_none, errW_some] <;> rfl) | (simp only [← hji41]; first | rfl | (simp [errW_none, errW_some] <;> rfl)) | (simp [*, errW_none, errW_some] <;> rfl), by repeat (first | (with_reducible first | exact HB.out | apply below_alloc | apply pw_below_drewN | apply below_drew1 | refine below_set ?_ GE486.out | refine below_set ?_ GE487.out | refine below_set ?_ GE506.out | refine below_set ?_ GE507.out | refine below_set ?_ GE512.out) | exact HB.out)⟩
                  · rw [if_neg c43] at H
                    have c43b0 : (t505 == 0) = false := beq_eq_false_iff_ne.mpr c43
                    have c43b1 : (t505 != 0) = true := bne_iff_ne.mpr c43
                    replace H := Option.bind_eq_some_iff.mp H
                    obtain ⟨t516, A1190, H⟩ := H
                    replace H : (some t516) = some r := H
                    have A119 := Aside0.mk A1190
                    clear A1190
                    obtain rfl := Option.some.inj H
                    have hnb120 := NB486_487.out
                    have hnc120 := NB487_486.out
                    obtain ⟨hcz121_0, hcz121_1⟩ := cz2 BK486
                    obtain ⟨hfz121_0, hfz121_1⟩ := fz2 BK486
                    go_wp2_with (first | ((with_reducible refine gate_callee (f := 16) rfl ?_); refine goesB (some 65) rfl rfl Try.func16 #[.slice A0 l0.length c0, .int .i64 0, .agg #[.int .i64 a1_0, .int .i64 a1_1]] rfl ?_; (with_reducible refine (fill_One.calls kj30 _ _ l0 0 a1_0 a1_1 t502 t503 t504 t505 _ ?side1 ?side2 A40.out).mono ?_); (case side1 => repeat (first | exact (Kd.C_below HR0.out HB.out) | (with_reducible refine Kd.C_alloc ?_ _) | (with_reducible refine Kd.C_drewN ?_ _) | (with_reducible refine Kd.C_drew ?_))); (case side2 => exact HC0.out); rintro e w122 ⟨rfl, hb⟩; refine ⟨_, rfl, ?_⟩; replace BK486 := bb BK486 hb; replace BK487 := bb BK487 hb; replace HB := bh HB hb; (try clear hb); (try clear hb2); (try clear hk); (try clear hi)) | ((with_reducible refine gate_dst (N := 12) rfl ?_); (try (refine gate_guard (by rfl) ?_; dsimp only)); refine box_event ?hg (N := 12) ?hd (cs := #[.int .i64 0, .int .i64 0, .bool false]) (t := 35) ?hr ?_; (case hd => rfl); (case hg => rfl); (case hr => first | (go_simp; done) | (go_simp; rfl)); intro gb506 hg w123 hbox hb; have BK506 := Aside0.mk (hbox); have GW506 := bge HB hg; have GE506 := bge HB hg; replace HB := bh HB hb; have NB486_506 := nbl BK486 hg; have NB506_486 := nbg BK486 hg; replace BK486 := bb BK486 hb; have NB487_506 := nbl BK487 hg; have NB506_487 := nbg BK487 hg; replace BK487 := bb BK487 hb; clear hb hbox hg; have hnb124 := NB506_486.out; have hnc124 := NB486_506.out; have hnb125 := NB506_487.out; have hnc125 := NB487_506.out; obtain ⟨hcz126_0, hcz126_1, hcz126_2⟩ := cz3 BK506; obtain ⟨hfz126_0, hfz126_1, hfz126_2⟩ := fz3 BK506; obtain ⟨hcz127_0, hcz127_1⟩ := cz2 BK486; obtain ⟨hfz127_0, hfz127_1⟩ := fz2 BK486; obtain ⟨hcz128_0, hcz128_1⟩ := cz2 BK487; obtain ⟨hfz128_0, hfz128_1⟩ := fz2 BK487) | ((with_reducible refine gate_dst (N := 14) rfl ?_); (try (refine gate_guard (by rfl) ?_; dsimp only)); refine box_event ?hg (N := 14) ?hd (cs := #[.int .i64 0, .int .i64 0]) (t := 24) ?hr ?_; (case hd => rfl); (case hg => rfl); (case hr => first | (go_simp; done) | (go_simp; rfl)); intro gb507 hg w129 hbox hb; have BK507 := Aside0.mk (hbox); have GW507 := bge HB hg; have GE507 := bge HB hg; replace HB := bh HB hb; have NB486_507 := nbl BK486 hg; have NB507_486 := nbg BK486 hg; replace BK486 := bb BK486 hb; have NB487_507 := nbl BK487 hg; have NB507_487 := nbg BK487 hg; replace BK487 := bb BK487 hb; have NB506_507 := Aside0.mk ((by rw [hg]; exact Nat.ne_of_lt (blk_lt (o := .cells #[.int .i64 t502, .int .i64 t503, .bool t504] 35 (0, 0)) (bp BK506)) : gb506 ≠ gb507)); have NB507_506 := Aside0.mk ((by rw [hg]; exact Nat.ne_of_gt (blk_lt (o := .cells #[.int .i64 t502, .int .i64 t503, .bool t504] 35 (0, 0)) (bp BK506)) : gb507 ≠ gb506)); replace BK506 := Aside0.mk (blk_below (o := .cells #[.int .i64 t502, .int .i64 t503, .bool t504] 35 (0, 0)) (bp BK506) hb); clear hb hbox hg; have hnb130 := NB507_486.out; have hnc130 := NB486_507.out; have hnb131 := NB507_487.out; have hnc131 := NB487_507.out; have hnb132 := NB507_506.out; have hnc132 := NB506_507.out; obtain ⟨hcz133_0, hcz133_1⟩ := cz2 BK507; obtain ⟨hfz133_0, hfz133_1⟩ := fz2 BK507) | ((with_reducible refine gate_callee (f := 16) rfl ?_); refine goesL_ (some 82) rfl rfl Try.func16 (by kernel_rfl) rfl #[.slice A0 l0.length c0, .int .i64 0, .agg #[.int .i64 ji41, .int .i64 a1_1]] rfl (by (try simp only [List.map_toArray, List.map_cons, List.map_nil]); first | done | (simp only [hji41]; rfl) | rfl | (simp only [List.length_drop, List.length_take]; rfl)) ?_; (with_reducible refine (fill_One.calls kj30 _ _ l0 0 ji41 a1_1 t508 t509 t510 t511 _ ?side1 ?side2 A42.out).mono ?_); (case side1 => exact Kd.C_below HR0.out (bw HB)); (case side2 => exact HC0.out); rintro e w134 ⟨rfl, hb⟩; refine ⟨_, rfl, ?_⟩; replace BK486 := bb BK486 hb; replace BK487 := bb BK487 hb; replace BK506 := bb BK506 hb; replace BK507 := Aside0.mk (blk_below (o := .cells #[.int .i64 ji41, .int .i64 a1_1] 24 (0, 0)) (bp BK507) hb); replace HB := bh HB hb; (try clear hb); (try clear hb2); (try clear hk); (try clear hi)) | ((with_reducible refine gate_dst (N := 15) rfl ?_); (try (refine gate_guard (by rfl) ?_; dsimp only)); refine box_event ?hg (N := 15) ?hd (cs := #[.int .i64 0, .int .i64 0, .bool false]) (t := 35) ?hr ?_; (case hd => rfl); (case hg => rfl); (case hr => first | (go_simp; done) | (go_simp; rfl)); intro gb512 hg w135 hbox hb; have BK512 := Aside0.mk (hbox); have GW512 := bge HB hg; have GE512 := bge HB hg; replace HB := bh HB hb; have NB486_512 := nbl BK486 hg; have NB512_486 := nbg BK486 hg; replace BK486 := bb BK486 hb; have NB487_512 := nbl BK487 hg; have NB512_487 := nbg BK487 hg; replace BK487 := bb BK487 hb; have NB506_512 := nbl BK506 hg; have NB512_506 := nbg BK506 hg; replace BK506 := bb BK506 hb; have NB507_512 := nbl BK507 hg; have NB512_507 := nbg BK507 hg; replace BK507 := bb BK507 hb; clear hb hbox hg; have hnb136 := NB512_486.out; have hnc136 := NB486_512.out; have hnb137 := NB512_487.out; have hnc137 := NB487_512.out; have hnb138 := NB512_506.out; have hnc138 := NB506_512.out; have hnb139 := NB512_507.out; have hnc139 := NB507_512.out; obtain ⟨hcz140_0, hcz140_1, hcz140_2⟩ := cz3 BK512; obtain ⟨hfz140_0, hfz140_1, hfz140_2⟩ := fz3 BK512) | (go_at_call 8; (with_reducible refine (stickfullaw14_head.calls kj30  t516 _ A119.out).mono ?_); rintro e w141 ⟨rfl, hb⟩; replace BK486 := bb BK486 hb; replace BK487 := bb BK487 hb; replace BK506 := bb BK506 hb; replace BK507 := bb BK507 hb; replace BK512 := Aside0.mk (blk_below (o := .cells #[.int .i64 t508, .int .i64 t509, .bool t510] 35 (0, 0)) (bp BK512) hb); replace HB := bh HB hb; (try clear hb); (try clear hb2); (try clear hk); (try clear hi)))
                    go_ret
                    exact ⟨by first | rfl | (simp [errW_none, errW_some] <;> rfl) | (simp only [← hji41]; first | rfl | (simp [errW_none, errW_some] <;> rfl)) | (simp [*, errW_none, errW_some] <;> rfl), by repeat (first | (with_reducible first | exact HB.out | apply below_alloc | apply pw_below_drewN | apply below_drew1 | refine below_set ?_ GE486.out | refine below_set ?_ GE487.out | refine below_set ?_ GE506.out | refine below_set ?_ GE507.out | refine below_set ?_ GE512.out) | exact HB.out)⟩
    · rw [if_neg c9] at H
      exact absurd H (by simp)

end Go.Proofs.Ytagdaniakfpnfaa.HFill
