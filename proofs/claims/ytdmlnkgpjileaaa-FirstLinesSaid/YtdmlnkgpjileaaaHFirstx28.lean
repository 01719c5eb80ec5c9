-- Written by this claim's own program over the kit's print.
import Derived.Test.YtdmlnkgpjileaaaM3
import Derived.Test.YtdmlnkgpjileaaaHFirstx22
import Derived.Test.YtdmlnkgpjileaaaHFirstx24
import Derived.Test.YtdmlnkgpjileaaaHFirstx27
import Derived.Test.YtdmlnkgpjileaaaM2
import Derived.StillTailTactics
import Derived.Laws.Externs
import Derived.BigFrameIn
import Derived.Lib.Hide
import Derived.Sort.LoopGhostIn
import Derived.BigQuiet
namespace Go.Proofs.Ytdmlnkgpjileaaa.HFirst
open Go.RowKit Go.Proofs.YtdmlnkgpjileaaaW.PrintWords Go.Proofs.YtdmlnkgpjileaaaW.PrintLast Go.Proofs.YtdmlnkgpjileaaaW.PrintMore Go.Proofs.Ytdmlnkgpjileaaa.Hand
attribute [local go_sem] max2_int min2_int max_two min_two max_three min_three max_four min_four   -- for this text's walks alone
set_option linter.unusedVariables false
set_option linter.unusedSimpArgs false

/-! ### stickfulref14_One: function 24 -/
mutual
def stickfulref14_One.j0 : Nat → List (S46) → Int → List Int → List Int → Bool → Int → Int → Option (Int × Int × Bool × Int)
 | 0, _, _, _, _, _, _, _ => none
 | k + 1, x0, x1, x8, x9, x32, x343000, x343001 => if x32 = true then (some (0, 0, false, 2)) else ((stickfulref14_run.f k x0 x1 x8 x343000 x343001).bind fun bt351 => (if bt351.2 = 0 then (if 0 ≤ (mx (wrap64 (bt351.1 - 1)) 0) then (if (mx (wrap64 (bt351.1 - 1)) 0) < (x8.length : Int) then (if 0 < (x8.length : Int) then ((stickfulref14_ahead.f k x9 (rd x8 0)).bind fun t355 => (if bt351.1 = 0 then (stickfulref14_One.j1 k x0 x1 (rd x8 (mx (wrap64 (bt351.1 - 1)) 0)) t355 (decide ((t355.length : Int) > 0)) x343000 x343001) else (stickfulref14_One.j1 k x0 x1 (rd x8 (mx (wrap64 (bt351.1 - 1)) 0)) t355 false x343000 x343001))) else (none)) else (none)) else (none)) else (some (0, 0, false, bt351.2))))
def stickfulref14_One.j1 : Nat → List (S46) → Int → Int → List Int → Bool → Int → Int → Option (Int × Int × Bool × Int)
 | 0, _, _, _, _, _, _, _ => none
 | k + 1, x0, x1, x13, x14, x63, x343000, x343001 => if x63 = true then ((stickfulref14_run.f k x0 x1 x14 x343000 x343001).bind fun bt358 => (if bt358.2 = 0 then (if 0 ≤ (mx (wrap64 (bt358.1 - 1)) 0) then (if (mx (wrap64 (bt358.1 - 1)) 0) < (x14.length : Int) then ((stickfulref14_Last.f k x0 x1).bind fun bt361 => (if bt361.2 = true then (some (x1, rd x14 (mx (wrap64 (bt358.1 - 1)) 0), ((rd x14 (mx (wrap64 (bt358.1 - 1)) 0)) == bt361.1), 0)) else (some (x1, rd x14 (mx (wrap64 (bt358.1 - 1)) 0), false, 0)))) else (none)) else (none)) else (some (0, 0, false, bt358.2)))) else ((stickfulref14_Last.f k x0 x1).bind fun bt363 => (if bt363.2 = true then (some (x1, x13, (x13 == bt363.1), 0)) else (some (x1, x13, false, 0))))
end
def stickfulref14_One.f (k : Nat) (l0 : List (S46)) (a1 a2_0 a2_1 : Int) : Option (Int × Int × Bool × Int) := (stickfulref14_Ends.f k l0 a1).bind fun bt344 => (if bt344.2.2 = 0 then (stickfulref14_One.j0 k l0 a1 bt344.1 bt344.2.1 (decide (a2_0 < 0)) a2_0 a2_1) else (stickfulref14_One.j0 k l0 a1 bt344.1 bt344.2.1 true a2_0 a2_1))
theorem stickfulref14_One.mono_l : ∀ k, (∀ y0 y1 y2 y3 y4 y5 y6, LeO (stickfulref14_One.j0 k y0 y1 y2 y3 y4 y5 y6) (stickfulref14_One.j0 (k + 1) y0 y1 y2 y3 y4 y5 y6)) ∧ (∀ y0 y1 y2 y3 y4 y5 y6, LeO (stickfulref14_One.j1 k y0 y1 y2 y3 y4 y5 y6) (stickfulref14_One.j1 (k + 1) y0 y1 y2 y3 y4 y5 y6))
 | 0 => ⟨fun _ _ _ _ _ _ _ r h => by simp [stickfulref14_One.j0] at h, fun _ _ _ _ _ _ _ r h => by simp [stickfulref14_One.j1] at h⟩
 | k + 1 => by
  obtain ⟨ih0, ih1⟩ := stickfulref14_One.mono_l k
  refine ⟨?_, ?_⟩
  ·intro y0 y1 y2 y3 y4 y5 y6
   unfold stickfulref14_One.j0
   repeat' first
   | (with_reducible exact ih0 _ _ _ _ _ _ _)
   | (with_reducible exact ih1 _ _ _ _ _ _ _)
   | (with_reducible exact stickfulref14_Ends.mono _ _ _)
   | (with_reducible exact stickfulref14_Last.mono _ _ _)
   | (with_reducible exact stickfulref14_ahead.mono _ _ _)
   | (with_reducible exact stickfulref14_run.mono _ _ _ _ _ _)
   | (with_reducible exact LeO.refl _)
   | (with_reducible exact LeO.none _)
   | (with_reducible refine LeO.ite ?_ ?_)
   | (with_reducible refine LeO.bind ?_ (fun _ => ?_))
   | exact ih0 _ _ _ _ _ _ _
   | exact ih1 _ _ _ _ _ _ _
   | exact stickfulref14_Ends.mono _ _ _
   | exact stickfulref14_Last.mono _ _ _
   | exact stickfulref14_ahead.mono _ _ _
   | exact stickfulref14_run.mono _ _ _ _ _ _
   | exact LeO.none _
   | refine LeO.ite ?_ ?_
   | refine LeO.bind ?_ (fun _ => ?_)
  ·intro y0 y1 y2 y3 y4 y5 y6
   unfold stickfulref14_One.j1
   repeat' first
   | (with_reducible exact ih0 _ _ _ _ _ _ _)
   | (with_reducible exact ih1 _ _ _ _ _ _ _)
   | (with_reducible exact stickfulref14_Ends.mono _ _ _)
   | (with_reducible exact stickfulref14_Last.mono _ _ _)
   | (with_reducible exact stickfulref14_ahead.mono _ _ _)
   | (with_reducible exact stickfulref14_run.mono _ _ _ _ _ _)
   | (with_reducible exact LeO.refl _)
   | (with_reducible exact LeO.none _)
   | (with_reducible refine LeO.ite ?_ ?_)
   | (with_reducible refine LeO.bind ?_ (fun _ => ?_))
   | exact ih0 _ _ _ _ _ _ _
   | exact ih1 _ _ _ _ _ _ _
   | exact stickfulref14_Ends.mono _ _ _
   | exact stickfulref14_Last.mono _ _ _
   | exact stickfulref14_ahead.mono _ _ _
   | exact stickfulref14_run.mono _ _ _ _ _ _
   | exact LeO.none _
   | refine LeO.ite ?_ ?_
   | refine LeO.bind ?_ (fun _ => ?_)
theorem stickfulref14_One.mono : ∀ a0 a1 a2 a3 k, LeO (stickfulref14_One.f k a0 a1 a2 a3) (stickfulref14_One.f (k + 1) a0 a1 a2 a3) := by
 intro a0 a1 a2 a3 k
 obtain ⟨ih0, ih1⟩ := stickfulref14_One.mono_l k
 unfold stickfulref14_One.f
 repeat' first
   | (with_reducible exact ih0 _ _ _ _ _ _ _)
   | (with_reducible exact ih1 _ _ _ _ _ _ _)
   | (with_reducible exact stickfulref14_Ends.mono _ _ _)
   | (with_reducible exact stickfulref14_Last.mono _ _ _)
   | (with_reducible exact stickfulref14_ahead.mono _ _ _)
   | (with_reducible exact stickfulref14_run.mono _ _ _ _ _ _)
   | (with_reducible exact LeO.refl _)
   | (with_reducible exact LeO.none _)
   | (with_reducible refine LeO.ite ?_ ?_)
   | (with_reducible refine LeO.bind ?_ (fun _ => ?_))
   | exact ih0 _ _ _ _ _ _ _
   | exact ih1 _ _ _ _ _ _ _
   | exact stickfulref14_Ends.mono _ _ _
   | exact stickfulref14_Last.mono _ _ _
   | exact stickfulref14_ahead.mono _ _ _
   | exact stickfulref14_run.mono _ _ _ _ _ _
   | exact LeO.none _
   | refine LeO.ite ?_ ?_
   | refine LeO.bind ?_ (fun _ => ?_)
set_option maxHeartbeats 8000000 in
set_option maxRecDepth 100000 in
theorem stickfulref14_One.calls (k : Nat) (A0 : Option Addr) (c0 : Nat) (l0 : List (S46)) (a1 a2_0 a2_1 r1 r2 : Int) (r3 : Bool) (r4 : Int) (w : World) (hr0 : Kd.C k46 w A0 l0.length l0) (hc0 : l0.length ≤ c0) (h : stickfulref14_One.f k l0 a1 a2_0 a2_1 = some (r1, r2, r3, r4)) :
  Calls Try.prog 24 #[.slice A0 l0.length c0, .int .i64 a1, .agg #[.int .i64 a2_0, .int .i64 a2_1]] w fun e w' => e = .returned (.tuple #[.agg #[.int .i64 r1, .int .i64 r2, .bool r3], .int .i64 r4]) ∧ Below w.heap.size w w' := by
 have hu24 := Try.underlying24
 have hu43 := Try.underlying43
 have HR0 := Aside0.mk hr0
 have HC0 := Aside0.mk hc0
 clear hr0 hc0
 have HB := Aside0.mk (Below.refl w.heap.size w)
 have H : ((stickfulref14_Ends.f k l0 a1).bind fun bt344 => (if bt344.2.2 = 0 then (stickfulref14_One.j0 k l0 a1 bt344.1 bt344.2.1 (decide (a2_0 < 0)) a2_0 a2_1) else (stickfulref14_One.j0 k l0 a1 bt344.1 bt344.2.1 true a2_0 a2_1))) = some (r1, r2, r3, r4) := h
 clear h
 replace H := Option.bind_eq_some_iff.mp H
 obtain ⟨⟨t344, t345, t346⟩, A40, H⟩ := H
 replace H : (if t346 = 0 then (stickfulref14_One.j0 k l0 a1 t344 t345 (decide (a2_0 < 0)) a2_0 a2_1) else (stickfulref14_One.j0 k l0 a1 t344 t345 true a2_0 a2_1)) = some (r1, r2, r3, r4) := H
 have A4 := Aside0.mk A40
 clear A40
 have HC5 := Aside0.mk H
 clear H
 go_enter Try.func24, Try.ntmps24
 go_upto_region 2 with (first | ((with_reducible refine gate_dst (N := 5) rfl ?_); (try (refine gate_guard (by rfl) ?_; dsimp only)); refine box_event ?hg (N := 5) ?hd (cs := #[.int .i64 a2_0, .int .i64 a2_1]) (t := 24) ?hr ?_; (case hd => rfl); (case hg => rfl); (case hr => first | (go_simp; done) | (go_simp; rfl)); intro gb342 hg w6 hbox hb; have BK342 := Aside0.mk (hbox); have GW342 := bge HB hg; have GE342 := bge HB hg; replace HB := bh HB hb; clear hb hbox hg) | ((with_reducible refine gate_dst (N := 6) rfl ?_); (try (refine gate_guard (by rfl) ?_; dsimp only)); refine box_event ?hg (N := 6) ?hd (cs := #[.int .i64 0, .int .i64 0, .bool false]) (t := 43) ?hr ?_; (case hd => rfl); (case hg => rfl); (case hr => first | (go_simp; done) | (go_simp; rfl)); intro gb343 hg w7 hbox hb; have BK343 := Aside0.mk (hbox); have GW343 := bge HB hg; have GE343 := bge HB hg; replace HB := bh HB hb; have NB342_343 := nbl BK342 hg; have NB343_342 := nbg BK342 hg; replace BK342 := bb BK342 hb; clear hb hbox hg) | ((with_reducible refine gate_callee (f := 39) rfl ?_); refine goesB (some 22) rfl rfl Try.func39 #[.slice A0 l0.length c0, .int .i64 a1] rfl ?_; (with_reducible refine (stickfulref14_Ends.calls k _ _ l0 a1 t344 t345 t346 _ ?side1 ?side2 A4.out).mono ?_); (case side1 => repeat (first | exact (Kd.C_below HR0.out HB.out) | (with_reducible refine Kd.C_alloc ?_ _) | (with_reducible refine Kd.C_drewN ?_ _) | (with_reducible refine Kd.C_drew ?_))); (case side2 => exact HC0.out); rintro e w8 ⟨v347, v349, rfl, ho0, ho1, hb⟩; refine ⟨_, rfl, ?_⟩; have HO348 := Aside0.mk (Kd.R_lower ho0 (below_size (bw HB))); have HO350 := Aside0.mk (Kd.R_lower ho1 (below_size (bw HB))); replace BK342 := bb BK342 hb; replace BK343 := bb BK343 hb; replace HB := bh HB hb; (try clear hb); (try clear hb2); (try clear hk); (try clear hi); (try clear ho0); (try clear ho1)))
 (try simp only [Act.put, List.setIfInBounds_toArray, List.set_cons_zero, List.set_cons_succ])
 go_cut [32] (fun v32 wc => ∃ (kq : Nat) (x32_4 : Bool), v32 = .bool x32_4 ∧ Aside0 (stickfulref14_One.j0 kq l0 a1 t344 t345 x32_4 a2_0 a2_1 = some (r1, r2, r3, r4)) ∧ Aside0 (kq ≤ k) ∧ Aside0 (Kd.R (Kd.int .i64) 3 wc w.heap.size (fun k_ => some k_ ≠ (v349 : Value).ownBlock) v347 t344) ∧ Aside0 (Kd.R (Kd.int .i64) 3 wc w.heap.size (fun k_ => some k_ ≠ (v347 : Value).ownBlock) v349 t345) ∧ Aside0 (wc.heap[gb342]? = some (.cells #[.int .i64 a2_0, .int .i64 a2_1] 24 (0, 0))) ∧ Aside0 (wc.heap[gb343]? = some (.cells #[.int .i64 0, .int .i64 0, .bool false] 43 (0, 0))) ∧ Aside0 (Below w.heap.size w wc))
 case first =>
  have H := HC5.out
  clear HC5
  by_cases c9 : t346 = 0
  ·rw [if_pos c9] at H
   have c9b0 : (t346 == 0) = true := beq_iff_eq.mpr c9
   have c9b1 : (t346 != 0) = false := bne_eq_false_iff_eq.mpr c9
   clear c9
   (first | rw [c9b0] | (simp only [i64_w, i32_w]; rw [c9b0]) | skip)
   have H' := Aside0.mk H
   clear H
   have hnb10 := NB342_343.out
   have hnc10 := NB343_342.out
   obtain ⟨hcz11_0, hcz11_1⟩ := cz2 BK342
   obtain ⟨hfz11_0, hfz11_1⟩ := fz2 BK342
   go_wp2
   go_meet
   case rel => exact ⟨_, (decide (a2_0 < 0)), (by first | rfl | (simp; done) | (simp [*]; done)), H', ⟨by first | omega | exact Nat.le_refl _⟩, ⟨by (with_reducible repeat (first | apply Kd.R_alloc | apply Kd.R_drewN | apply Kd.R_drew)); exact HO348.out⟩, ⟨by (with_reducible repeat (first | apply Kd.R_alloc | apply Kd.R_drewN | apply Kd.R_drew)); exact HO350.out⟩, ⟨by (with_reducible repeat (first | refine blk_drewN ?_ _ | refine blk_drew ?_ | refine blk_alloc ?_ _)); exact BK342.out⟩, ⟨by (with_reducible repeat (first | refine blk_drewN ?_ _ | refine blk_drew ?_ | refine blk_alloc ?_ _)); exact BK343.out⟩, ⟨by repeat (first | (with_reducible first | exact HB.out | apply below_alloc | apply pw_below_drewN | apply below_drew1 | refine below_set ?_ GE342.out | refine below_set ?_ GE343.out) | exact HB.out)⟩⟩
  ·rw [if_neg c9] at H
   have c9b0 : (t346 == 0) = false := beq_eq_false_iff_ne.mpr c9
   have c9b1 : (t346 != 0) = true := bne_iff_ne.mpr c9
   (first | rw [c9b0] | (simp only [i64_w, i32_w]; rw [c9b0]) | skip)
   have H' := Aside0.mk H
   clear H
   go_wp2
   go_meet
   case rel => exact ⟨_, (true), (by first | rfl | (simp; done) | (simp [*]; done)), H', ⟨by first | omega | exact Nat.le_refl _⟩, ⟨by (with_reducible repeat (first | apply Kd.R_alloc | apply Kd.R_drewN | apply Kd.R_drew)); exact HO348.out⟩, ⟨by (with_reducible repeat (first | apply Kd.R_alloc | apply Kd.R_drewN | apply Kd.R_drew)); exact HO350.out⟩, ⟨by (with_reducible repeat (first | refine blk_drewN ?_ _ | refine blk_drew ?_ | refine blk_alloc ?_ _)); exact BK342.out⟩, ⟨by (with_reducible repeat (first | refine blk_drewN ?_ _ | refine blk_drew ?_ | refine blk_alloc ?_ _)); exact BK343.out⟩, ⟨by repeat (first | (with_reducible first | exact HB.out | apply below_alloc | apply pw_below_drewN | apply below_drew1 | refine below_set ?_ GE342.out | refine below_set ?_ GE343.out) | exact HB.out)⟩⟩
 case rest =>
  clear HC5
  try clear c1
  try clear c2
  try clear p2
  try clear c3
  try clear c9
  try clear c9b0
  try clear c9b1
  try clear c10
  try clear hcz11_0
  try clear hcz11_1
  try clear hfz11_0
  try clear hfz11_1
  obtain ⟨kq, x32_4, rfl, HA, HJ4, HO_8, HO_9, BK342, BK343, HB⟩ := hcut
  cases kq with
  | zero => exact absurd HA.out (by simp [stickfulref14_One.j0])
  | succ kj4 =>
   have H := HA.out
   clear HA
   simp only [stickfulref14_One.j0] at H
   by_cases c12 : x32_4 = true
   ·subst c12
    have H1 : (some (0, 0, false, 2)) = some (r1, r2, r3, r4) := by rw [if_pos rfl] at H; exact H
    clear H
    have H := H1
    clear H1
    simp only [Option.some.injEq, Prod.mk.injEq] at H
    obtain ⟨rfl, rfl, rfl, rfl⟩ := H
    have hnb13 := NB343_342.out
    have hnc13 := NB342_343.out
    obtain ⟨hcz14_0, hcz14_1, hcz14_2⟩ := cz3 BK343
    obtain ⟨hfz14_0, hfz14_1, hfz14_2⟩ := fz3 BK343
    go_wp2
    refine bodyPost_ret (results_ct rfl _ _ gb343 43 #[.int .i64 0, .int .i64 0, .bool false] (0, 0) _ rfl (by (with_reducible repeat (first | refine blk_drewN ?_ _ | refine blk_drew ?_ | refine blk_alloc ?_ _)); refine blk_put (cs := #[.int .i64 0, .int .i64 0, .bool false]) ?_ 2 _ rfl; (with_reducible repeat (first | refine blk_drewN ?_ _ | refine blk_drew ?_ | refine blk_alloc ?_ _)); refine blk_put (cs := #[.int .i64 0, .int .i64 0, .bool false]) ?_ 1 _ rfl; (with_reducible repeat (first | refine blk_drewN ?_ _ | refine blk_drew ?_ | refine blk_alloc ?_ _)); refine blk_put (cs := #[.int .i64 0, .int .i64 0, .bool false]) ?_ 0 _ rfl; (with_reducible repeat (first | refine blk_drewN ?_ _ | refine blk_drew ?_ | refine blk_alloc ?_ _)); exact BK343.out) Try.underlying43 rfl (by kernel_rfl)) rfl ?_
    exact ⟨by first | rfl | (simp [errW_none, errW_some] <;> rfl) | (simp [*, errW_none, errW_some] <;> rfl), by repeat (first | (with_reducible first | exact HB.out | apply below_alloc | apply pw_below_drewN | apply below_drew1 | refine below_set ?_ GE342.out | refine below_set ?_ GE343.out) | exact HB.out)⟩
   ·replace c12 := Bool.eq_false_iff.mpr c12
    subst c12
    have H1 : ((stickfulref14_run.f kj4 l0 a1 t344 a2_0 a2_1).bind fun bt351 => (if bt351.2 = 0 then (if 0 ≤ (mx (wrap64 (bt351.1 - 1)) 0) then (if (mx (wrap64 (bt351.1 - 1)) 0) < (t344.length : Int) then (if 0 < (t344.length : Int) then ((stickfulref14_ahead.f kj4 t345 (rd t344 0)).bind fun t355 => (if bt351.1 = 0 then (stickfulref14_One.j1 kj4 l0 a1 (rd t344 (mx (wrap64 (bt351.1 - 1)) 0)) t355 (decide ((t355.length : Int) > 0)) a2_0 a2_1) else (stickfulref14_One.j1 kj4 l0 a1 (rd t344 (mx (wrap64 (bt351.1 - 1)) 0)) t355 false a2_0 a2_1))) else (none)) else (none)) else (none)) else (some (0, 0, false, bt351.2)))) = some (r1, r2, r3, r4) := by rw [if_neg (show ¬ (false = true) by decide)] at H; exact H
    clear H
    have H := H1
    clear H1
    replace H := Option.bind_eq_some_iff.mp H
    obtain ⟨⟨t351, t352⟩, A150, H⟩ := H
    replace H : (if t352 = 0 then (if 0 ≤ (mx (wrap64 (t351 - 1)) 0) then (if (mx (wrap64 (t351 - 1)) 0) < (t344.length : Int) then (if 0 < (t344.length : Int) then ((stickfulref14_ahead.f kj4 t345 (rd t344 0)).bind fun t355 => (if t351 = 0 then (stickfulref14_One.j1 kj4 l0 a1 (rd t344 (mx (wrap64 (t351 - 1)) 0)) t355 (decide ((t355.length : Int) > 0)) a2_0 a2_1) else (stickfulref14_One.j1 kj4 l0 a1 (rd t344 (mx (wrap64 (t351 - 1)) 0)) t355 false a2_0 a2_1))) else (none)) else (none)) else (none)) else (some (0, 0, false, t352))) = some (r1, r2, r3, r4) := H
    have A15 := Aside0.mk A150
    clear A150
    by_cases c16 : t352 = 0
    ·rw [if_pos c16] at H
     have c16b0 : (t352 == 0) = true := beq_iff_eq.mpr c16
     have c16b1 : (t352 != 0) = false := bne_eq_false_iff_eq.mpr c16
     clear c16
     obtain ⟨ji17, hji17⟩ : ∃ j_ : Int, (mx (wrap64 (t351 - 1)) 0) = j_ := ⟨_, rfl⟩
     replace H : (if 0 ≤ (ji17) then (if (ji17) < (t344.length : Int) then (if 0 < (t344.length : Int) then ((stickfulref14_ahead.f kj4 t345 (rd t344 0)).bind fun t355 => (if t351 = 0 then (stickfulref14_One.j1 kj4 l0 a1 (rd t344 (ji17)) t355 (decide ((t355.length : Int) > 0)) a2_0 a2_1) else (stickfulref14_One.j1 kj4 l0 a1 (rd t344 (ji17)) t355 false a2_0 a2_1))) else (none)) else (none)) else (none)) = some (r1, r2, r3, r4) := by first | (rw [hji17] at H; exact H) | (simp only [hji17] at H ⊢; exact H)
     (try rw [hji17] at A15)
     (try (have hji17l : 0 ≤ ji17 := by (rw [← hji17]; unfold mx; (repeat' split) <;> omega)))
     (try (have hji17m : 0 ≤ ji17 := by omega))
     have hji17_ : (if (wrap64 (t351 - 1)) < 0 then 0 else (wrap64 (t351 - 1))) = ji17 := hji17
     by_cases c18 : 0 ≤ (ji17)
     ·rw [if_pos c18] at H
      have c18b0 : decide (0 ≤ (ji17)) = true := decide_eq_true c18
      clear c18
      by_cases c19 : (ji17) < (t344.length : Int)
      ·rw [if_pos c19] at H
       have c19b0 : decide ((ji17) < (t344.length : Int)) = true := decide_eq_true c19
       clear c19
       by_cases c20 : 0 < (t344.length : Int)
       ·rw [if_pos c20] at H
        have c20b0 : decide (0 < (t344.length : Int)) = true := decide_eq_true c20
        have c20b1 : decide (0 < t344.length) = true := decide_eq_true (by omega)
        clear c20
        replace H := Option.bind_eq_some_iff.mp H
        obtain ⟨t355, A210, H⟩ := H
        replace H : (if t351 = 0 then (stickfulref14_One.j1 kj4 l0 a1 (rd t344 (ji17)) t355 (decide ((t355.length : Int) > 0)) a2_0 a2_1) else (stickfulref14_One.j1 kj4 l0 a1 (rd t344 (ji17)) t355 false a2_0 a2_1)) = some (r1, r2, r3, r4) := H
        have A21 := Aside0.mk A210
        clear A210
        have HC22 := Aside0.mk H
        clear H
        have hnb23 := NB342_343.out
        have hnc23 := NB343_342.out
        obtain ⟨hcz24_0, hcz24_1⟩ := cz2 BK342
        obtain ⟨hfz24_0, hfz24_1⟩ := fz2 BK342
        obtain ⟨Ao25, co25, eo25⟩ := Kd.R_slice HO_8.out
        subst eo25
        go_upto_region 9 with (first | ((with_reducible refine gate_callee (f := 40) rfl ?_); refine goesB (some 39) rfl rfl Try.func40 #[.slice A0 l0.length c0, .int .i64 a1, .slice Ao25 t344.length co25, .agg #[.int .i64 a2_0, .int .i64 a2_1]] rfl ?_; (with_reducible refine (stickfulref14_run.calls kj4 _ _ l0 a1 _ _ t344 a2_0 a2_1 t351 t352 _ ?side1 ?side2 ?side3 ?side4 A15.out).mono ?_); (case side1 => repeat (first | exact (Kd.C_below HR0.out HB.out) | (with_reducible refine Kd.C_alloc ?_ _) | (with_reducible refine Kd.C_drewN ?_ _) | (with_reducible refine Kd.C_drew ?_))); (case side2 => exact HC0.out); (case side3 => repeat (first | exact (Kd.R_reads' HO_8.out).2.2 | (with_reducible refine Kd.C_alloc ?_ _) | (with_reducible refine Kd.C_drewN ?_ _) | (with_reducible refine Kd.C_drew ?_))); (case side4 => exact (Kd.R_reads' HO_8.out).2.1); rintro e w26 ⟨rfl, hb⟩; refine ⟨_, rfl, ?_⟩; replace HO_8 := Aside0.mk (Kd.R_below (rx HO_8) hb); replace HO_9 := Aside0.mk (Kd.R_below (rx HO_9) hb); replace BK342 := bb BK342 hb; replace BK343 := bb BK343 hb; replace HB := bh HB hb; (try clear hb); (try clear hb2); (try clear hk); (try clear hi); have p353 : 0 ≤ ((ji17) : Int) := of_decide_eq_true (by first | (with_reducible assumption) | assumption); have q353 : (ji17) < (t344.length : Int) := of_decide_eq_true (by first | (with_reducible assumption) | assumption); obtain ⟨ad353, e353, hx353_0⟩ := Kd.at_int (Kd.R_reads' HO_8.out).2.2 (ji17) p353 q353; cases e353; replace p353 := eq_true p353; replace q353 := eq_true q353; have p354 : 0 ≤ (0 : Int) := (by omega); have q354 : 0 < (t344.length : Int) := of_decide_eq_true (by first | (with_reducible assumption) | assumption); obtain ⟨ad354, e354, hx354_0⟩ := Kd.at_int (Kd.R_reads' HO_8.out).2.2 0 p354 q354; obtain rfl : ad353 = ad354 := (by injection e354); have qi354 : (0 < t344.length) = True := eq_true (by omega); (try rw [show ((0 : Int)).toNat = 0 from rfl] at hx354_0); (try rw [Addr.add_zero'] at hx354_0); replace p354 := eq_true p354; replace q354 := eq_true q354; obtain ⟨Ao27, co27, eo27⟩ := Kd.R_slice HO_9.out; subst eo27) | ((with_reducible refine gate_callee (f := 41) rfl ?_); refine goesB (some 56) rfl rfl Try.func41 #[.slice Ao27 t345.length co27, .int .i64 (rd t344 0)] rfl ?_; (with_reducible refine (stickfulref14_ahead.calls kj4 _ _ t345 (rd t344 0) t355 _ ?side1 ?side2 A21.out).mono ?_); (case side1 => repeat (first | exact (Kd.R_reads' HO_9.out).2.2 | (with_reducible refine Kd.C_alloc ?_ _) | (with_reducible refine Kd.C_drewN ?_ _) | (with_reducible refine Kd.C_drew ?_))); (case side2 => exact (Kd.R_reads' HO_9.out).2.1); rintro e w28 ⟨v356, rfl, ho0, hb⟩; refine ⟨_, rfl, ?_⟩; have HO357 := Aside0.mk (Kd.R_lower (Kd.R_new' (Kd.R_new' ho0 (Kd.R_lt (rx HO_8))) (Kd.R_lt (rx HO_9))) (below_size (bw HB))); replace HO_8 := Aside0.mk (Kd.R_elder' (rx HO_8) (Kd.R_base ho0) hb); replace HO_9 := Aside0.mk (Kd.R_elder' (rx HO_9) (Kd.R_base ho0) hb); replace BK342 := bb BK342 hb; replace BK343 := bb BK343 hb; replace HB := bh HB hb; (try clear hb); (try clear hb2); (try clear hk); (try clear hi); (try clear ho0)))
        (try simp only [Act.put, List.setIfInBounds_toArray, List.set_cons_zero, List.set_cons_succ])
        go_cut [63] (fun v63 wc => ∃ (kq : Nat) (x63_21 : Bool), v63 = .bool x63_21 ∧ Aside0 (stickfulref14_One.j1 kq l0 a1 (rd t344 (ji17)) t355 x63_21 a2_0 a2_1 = some (r1, r2, r3, r4)) ∧ Aside0 (kq ≤ kj4) ∧ Aside0 (Kd.R (Kd.int .i64) 3 wc w.heap.size (fun _ => True) v356 t355) ∧ Aside0 (wc.heap[gb342]? = some (.cells #[.int .i64 a2_0, .int .i64 a2_1] 24 (0, 0))) ∧ Aside0 (wc.heap[gb343]? = some (.cells #[.int .i64 0, .int .i64 0, .bool false] 43 (0, 0))) ∧ Aside0 (Below w.heap.size w wc))
        case first =>
         have H := HC22.out
         clear HC22
         by_cases c29 : t351 = 0
         ·rw [if_pos c29] at H
          have c29b0 : (t351 == 0) = true := beq_iff_eq.mpr c29
          have c29b1 : (t351 != 0) = false := bne_eq_false_iff_eq.mpr c29
          clear c29
          (first | rw [c29b0] | (simp only [i64_w, i32_w]; rw [c29b0]) | skip)
          have H' := Aside0.mk H
          clear H
          obtain ⟨Ao30, co30, eo30⟩ := Kd.R_slice HO357.out
          subst eo30
          go_wp2
          go_meet
          case rel => exact ⟨_, (decide ((t355.length : Int) > 0)), (by first | rfl | (simp; done) | (simp [*]; done)), H', ⟨by have := HJ4.out; first | omega | exact Nat.le_refl _⟩, ⟨by (with_reducible repeat (first | apply Kd.R_alloc | apply Kd.R_drewN | apply Kd.R_drew)); exact Kd.R_mono HO357.out (fun _ hk => trivial)⟩, ⟨by (with_reducible repeat (first | refine blk_drewN ?_ _ | refine blk_drew ?_ | refine blk_alloc ?_ _)); exact BK342.out⟩, ⟨by (with_reducible repeat (first | refine blk_drewN ?_ _ | refine blk_drew ?_ | refine blk_alloc ?_ _)); exact BK343.out⟩, ⟨by repeat (first | (with_reducible first | exact HB.out | apply below_alloc | apply pw_below_drewN | apply below_drew1 | refine below_set ?_ GE342.out | refine below_set ?_ GE343.out) | exact HB.out)⟩⟩
         ·rw [if_neg c29] at H
          have c29b0 : (t351 == 0) = false := beq_eq_false_iff_ne.mpr c29
          have c29b1 : (t351 != 0) = true := bne_iff_ne.mpr c29
          (first | rw [c29b0] | (simp only [i64_w, i32_w]; rw [c29b0]) | skip)
          have H' := Aside0.mk H
          clear H
          go_wp2
          go_meet
          case rel => exact ⟨_, (false), (by first | rfl | (simp; done) | (simp [*]; done)), H', ⟨by have := HJ4.out; first | omega | exact Nat.le_refl _⟩, ⟨by (with_reducible repeat (first | apply Kd.R_alloc | apply Kd.R_drewN | apply Kd.R_drew)); exact Kd.R_mono HO357.out (fun _ hk => trivial)⟩, ⟨by (with_reducible repeat (first | refine blk_drewN ?_ _ | refine blk_drew ?_ | refine blk_alloc ?_ _)); exact BK342.out⟩, ⟨by (with_reducible repeat (first | refine blk_drewN ?_ _ | refine blk_drew ?_ | refine blk_alloc ?_ _)); exact BK343.out⟩, ⟨by repeat (first | (with_reducible first | exact HB.out | apply below_alloc | apply pw_below_drewN | apply below_drew1 | refine below_set ?_ GE342.out | refine below_set ?_ GE343.out) | exact HB.out)⟩⟩
        case rest =>
         clear HC22
         try clear c1
         try clear c2
         try clear p2
         try clear c3
         try clear p3
         try clear q3
         try clear hx3
         try clear qi3
         try clear c4
         try clear p6
         try clear c9
         try clear c9b0
         try clear c9b1
         try clear c10
         try clear c12
         try clear c13
         try clear c16
         try clear c16b0
         try clear c16b1
         try clear c18
         try clear c18b0
         try clear c19
         try clear c19b0
         try clear c20
         try clear c20b0
         try clear c20b1
         try clear c23
         try clear c24
         try clear c29
         try clear c29b0
         try clear c29b1
         try clear hcz11_0
         try clear hcz11_1
         try clear hcz14_0
         try clear hcz14_1
         try clear hcz14_2
         try clear hcz24_0
         try clear hcz24_1
         try clear hfz11_0
         try clear hfz11_1
         try clear hfz14_0
         try clear hfz14_1
         try clear hfz14_2
         try clear hfz24_0
         try clear hfz24_1
         try clear hx353_0
         try clear hx354_0
         try clear p2
         try clear p353
         try clear p354
         try clear q353
         try clear q354
         obtain ⟨kq, x63_21, rfl, HA, HJ21, HO_14, BK342, BK343, HB⟩ := hcut
         cases kq with
         | zero => exact absurd HA.out (by simp [stickfulref14_One.j1])
         | succ kj21 =>
          have H := HA.out
          clear HA
          simp only [stickfulref14_One.j1] at H
          by_cases c31 : x63_21 = true
          ·subst c31
           have H1 : ((stickfulref14_run.f kj21 l0 a1 t355 a2_0 a2_1).bind fun bt358 => (if bt358.2 = 0 then (if 0 ≤ (mx (wrap64 (bt358.1 - 1)) 0) then (if (mx (wrap64 (bt358.1 - 1)) 0) < (t355.length : Int) then ((stickfulref14_Last.f kj21 l0 a1).bind fun bt361 => (if bt361.2 = true then (some (a1, rd t355 (mx (wrap64 (bt358.1 - 1)) 0), ((rd t355 (mx (wrap64 (bt358.1 - 1)) 0)) == bt361.1), 0)) else (some (a1, rd t355 (mx (wrap64 (bt358.1 - 1)) 0), false, 0)))) else (none)) else (none)) else (some (0, 0, false, bt358.2)))) = some (r1, r2, r3, r4) := by rw [if_pos rfl] at H; exact H
           clear H
           have H := H1
           clear H1
           replace H := Option.bind_eq_some_iff.mp H
           obtain ⟨⟨t358, t359⟩, A320, H⟩ := H
           replace H : (if t359 = 0 then (if 0 ≤ (mx (wrap64 (t358 - 1)) 0) then (if (mx (wrap64 (t358 - 1)) 0) < (t355.length : Int) then ((stickfulref14_Last.f kj21 l0 a1).bind fun bt361 => (if bt361.2 = true then (some (a1, rd t355 (mx (wrap64 (t358 - 1)) 0), ((rd t355 (mx (wrap64 (t358 - 1)) 0)) == bt361.1), 0)) else (some (a1, rd t355 (mx (wrap64 (t358 - 1)) 0), false, 0)))) else (none)) else (none)) else (some (0, 0, false, t359))) = some (r1, r2, r3, r4) := H
           have A32 := Aside0.mk A320
           clear A320
           by_cases c33 : t359 = 0
           ·rw [if_pos c33] at H
            have c33b0 : (t359 == 0) = true := beq_iff_eq.mpr c33
            have c33b1 : (t359 != 0) = false := bne_eq_false_iff_eq.mpr c33
            clear c33
            obtain ⟨ji34, hji34⟩ : ∃ j_ : Int, (mx (wrap64 (t358 - 1)) 0) = j_ := ⟨_, rfl⟩
            replace H : (if 0 ≤ (ji34) then (if (ji34) < (t355.length : Int) then ((stickfulref14_Last.f kj21 l0 a1).bind fun bt361 => (if bt361.2 = true then (some (a1, rd t355 (ji34), ((rd t355 (ji34)) == bt361.1), 0)) else (some (a1, rd t355 (ji34), false, 0)))) else (none)) else (none)) = some (r1, r2, r3, r4) := by first | (rw [hji34] at H; exact H) | (simp only [hji34] at H ⊢; exact H)
            (try rw [hji34] at A32)
            (try (have hji34l : 0 ≤ ji34 := by (rw [← hji34]; unfold mx; (repeat' split) <;> omega)))
            (try (have hji34m : 0 ≤ ji34 := by omega))
            have hji34_ : (if (wrap64 (t358 - 1)) < 0 then 0 else (wrap64 (t358 - 1))) = ji34 := hji34
            by_cases c35 : 0 ≤ (ji34)
            ·rw [if_pos c35] at H
             have c35b0 : decide (0 ≤ (ji34)) = true := decide_eq_true c35
             clear c35
             by_cases c36 : (ji34) < (t355.length : Int)
             ·rw [if_pos c36] at H
              have c36b0 : decide ((ji34) < (t355.length : Int)) = true := decide_eq_true c36
              clear c36
              replace H := Option.bind_eq_some_iff.mp H
              obtain ⟨⟨t361, t362⟩, A370, H⟩ := H
              replace H : (if t362 = true then (some (a1, rd t355 (ji34), ((rd t355 (ji34)) == t361), 0)) else (some (a1, rd t355 (ji34), false, 0))) = some (r1, r2, r3, r4) := H
              have A37 := Aside0.mk A370
              clear A370
              by_cases c38 : t362 = true
              ·subst c38
               have H1 : (some (a1, rd t355 (ji34), ((rd t355 (ji34)) == t361), 0)) = some (r1, r2, r3, r4) := by rw [if_pos rfl] at H; exact H
               clear H
               have H := H1
               clear H1
               simp only [Option.some.injEq, Prod.mk.injEq] at H
               obtain ⟨rfl, rfl, rfl, rfl⟩ := H
               have hnb39 := NB342_343.out
               have hnc39 := NB343_342.out
               obtain ⟨hcz40_0, hcz40_1⟩ := cz2 BK342
               obtain ⟨hfz40_0, hfz40_1⟩ := fz2 BK342
               obtain ⟨Ao41, co41, eo41⟩ := Kd.R_slice HO_14.out
               subst eo41
               go_wp2_with (first | ((with_reducible refine gate_callee (f := 40) rfl ?_); refine goesB (some 69) rfl rfl Try.func40 #[.slice A0 l0.length c0, .int .i64 a1, .slice Ao41 t355.length co41, .agg #[.int .i64 a2_0, .int .i64 a2_1]] rfl ?_; (with_reducible refine (stickfulref14_run.calls kj21 _ _ l0 a1 _ _ t355 a2_0 a2_1 t358 t359 _ ?side1 ?side2 ?side3 ?side4 A32.out).mono ?_); (case side1 => repeat (first | exact (Kd.C_below HR0.out HB.out) | (with_reducible refine Kd.C_alloc ?_ _) | (with_reducible refine Kd.C_drewN ?_ _) | (with_reducible refine Kd.C_drew ?_))); (case side2 => exact HC0.out); (case side3 => repeat (first | exact (Kd.R_reads' HO_14.out).2.2 | (with_reducible refine Kd.C_alloc ?_ _) | (with_reducible refine Kd.C_drewN ?_ _) | (with_reducible refine Kd.C_drew ?_))); (case side4 => exact (Kd.R_reads' HO_14.out).2.1); rintro e w42 ⟨rfl, hb⟩; refine ⟨_, rfl, ?_⟩; replace HO_14 := Aside0.mk (Kd.R_below (rx HO_14) hb); replace BK342 := bb BK342 hb; replace BK343 := bb BK343 hb; replace HB := bh HB hb; (try clear hb); (try clear hb2); (try clear hk); (try clear hi); have p360 : 0 ≤ ((ji34) : Int) := of_decide_eq_true (by first | (with_reducible assumption) | assumption); have q360 : (ji34) < (t355.length : Int) := of_decide_eq_true (by first | (with_reducible assumption) | assumption); obtain ⟨ad360, e360, hx360_0⟩ := Kd.at_int (Kd.R_reads' HO_14.out).2.2 (ji34) p360 q360; cases e360; replace p360 := eq_true p360; replace q360 := eq_true q360) | ((with_reducible refine gate_callee (f := 42) rfl ?_); refine goesB (some 85) rfl rfl Try.func42 #[.slice A0 l0.length c0, .int .i64 a1] rfl ?_; (with_reducible refine (stickfulref14_Last.calls kj21 _ _ l0 a1 t361 true _ ?side1 ?side2 A37.out).mono ?_); (case side1 => repeat (first | exact (Kd.C_below HR0.out HB.out) | (with_reducible refine Kd.C_alloc ?_ _) | (with_reducible refine Kd.C_drewN ?_ _) | (with_reducible refine Kd.C_drew ?_))); (case side2 => exact HC0.out); rintro e w' ⟨rfl, ⟨nd, rfl⟩⟩; refine ⟨_, rfl, ?_⟩; (try (rw [drewN_self w42]; generalize hq_ : World.drewN w42 _ = w42; have n0_ : Aside0 (Kd.R (Kd.int .i64) 3 w42 w.heap.size (fun _ => True) (.slice (some ad360) t355.length co41) t355) := ⟨by rw [← hq_]; exact (rx HO_14)⟩; have n1_ : Aside0 (w42.heap[gb342]? = some (.cells #[.int .i64 a2_0, .int .i64 a2_1] 24 (0, 0))) := ⟨by rw [← hq_]; exact (by (with_reducible repeat (first | refine blk_drewN ?_ _ | refine blk_drew ?_ | refine blk_alloc ?_ _)); exact BK342.out)⟩; have n2_ : Aside0 (w42.heap[gb343]? = some (.cells #[.int .i64 0, .int .i64 0, .bool false] 43 (0, 0))) := ⟨by rw [← hq_]; exact (by (with_reducible repeat (first | refine blk_drewN ?_ _ | refine blk_drew ?_ | refine blk_alloc ?_ _)); exact BK343.out)⟩; have n3_ : Aside0 (Below w.heap.size w w42) := ⟨by rw [← hq_]; exact (bw HB)⟩; clear HO_14 BK342 BK343 HB hq_; have HO_14 := n0_; have BK342 := n1_; have BK343 := n2_; have HB := n3_; clear n0_ n1_ n2_ n3_)); obtain ⟨hcz43_0, hcz43_1, hcz43_2⟩ := cz3 BK343; obtain ⟨hfz43_0, hfz43_1, hfz43_2⟩ := fz3 BK343))
               refine bodyPost_ret (results_ct rfl _ _ gb343 43 #[.int .i64 a1, .int .i64 (rd t355 (ji34)), .bool ((rd t355 (ji34)) == t361)] (0, 0) _ rfl (by (with_reducible repeat (first | refine blk_drewN ?_ _ | refine blk_drew ?_ | refine blk_alloc ?_ _)); refine blk_put (cs := #[.int .i64 a1, .int .i64 (rd t355 (ji34)), .bool false]) ?_ 2 _ rfl; (with_reducible repeat (first | refine blk_drewN ?_ _ | refine blk_drew ?_ | refine blk_alloc ?_ _)); refine blk_put (cs := #[.int .i64 a1, .int .i64 0, .bool false]) ?_ 1 _ rfl; (with_reducible repeat (first | refine blk_drewN ?_ _ | refine blk_drew ?_ | refine blk_alloc ?_ _)); refine blk_put (cs := #[.int .i64 0, .int .i64 0, .bool false]) ?_ 0 _ rfl; (with_reducible repeat (first | refine blk_drewN ?_ _ | refine blk_drew ?_ | refine blk_alloc ?_ _)); exact BK343.out) Try.underlying43 rfl (by kernel_rfl)) rfl ?_
               exact ⟨by first | rfl | (simp [errW_none, errW_some] <;> rfl) | (simp only [← hji17, ← hji34]; first | rfl | (simp [errW_none, errW_some] <;> rfl)) | (simp [*, errW_none, errW_some] <;> rfl), by repeat (first | (with_reducible first | exact HB.out | apply below_alloc | apply pw_below_drewN | apply below_drew1 | refine below_set ?_ GE342.out | refine below_set ?_ GE343.out) | exact HB.out)⟩
              ·replace c38 := Bool.eq_false_iff.mpr c38
               subst c38
               have H1 : (some (a1, rd t355 (ji34), false, 0)) = some (r1, r2, r3, r4) := by rw [if_neg (show ¬ (false = true) by decide)] at H; exact H
               clear H
               have H := H1
               clear H1
               simp only [Option.some.injEq, Prod.mk.injEq] at H
               obtain ⟨rfl, rfl, rfl, rfl⟩ := H
               have hnb44 := NB342_343.out
               have hnc44 := NB343_342.out
               obtain ⟨hcz45_0, hcz45_1⟩ := cz2 BK342
               obtain ⟨hfz45_0, hfz45_1⟩ := fz2 BK342
               obtain ⟨Ao46, co46, eo46⟩ := Kd.R_slice HO_14.out
               subst eo46
               go_wp2_with (first | ((with_reducible refine gate_callee (f := 40) rfl ?_); refine goesB (some 69) rfl rfl Try.func40 #[.slice A0 l0.length c0, .int .i64 a1, .slice Ao46 t355.length co46, .agg #[.int .i64 a2_0, .int .i64 a2_1]] rfl ?_; (with_reducible refine (stickfulref14_run.calls kj21 _ _ l0 a1 _ _ t355 a2_0 a2_1 t358 t359 _ ?side1 ?side2 ?side3 ?side4 A32.out).mono ?_); (case side1 => repeat (first | exact (Kd.C_below HR0.out HB.out) | (with_reducible refine Kd.C_alloc ?_ _) | (with_reducible refine Kd.C_drewN ?_ _) | (with_reducible refine Kd.C_drew ?_))); (case side2 => exact HC0.out); (case side3 => repeat (first | exact (Kd.R_reads' HO_14.out).2.2 | (with_reducible refine Kd.C_alloc ?_ _) | (with_reducible refine Kd.C_drewN ?_ _) | (with_reducible refine Kd.C_drew ?_))); (case side4 => exact (Kd.R_reads' HO_14.out).2.1); rintro e w47 ⟨rfl, hb⟩; refine ⟨_, rfl, ?_⟩; replace HO_14 := Aside0.mk (Kd.R_below (rx HO_14) hb); replace BK342 := bb BK342 hb; replace BK343 := bb BK343 hb; replace HB := bh HB hb; (try clear hb); (try clear hb2); (try clear hk); (try clear hi); have p360 : 0 ≤ ((ji34) : Int) := of_decide_eq_true (by first | (with_reducible assumption) | assumption); have q360 : (ji34) < (t355.length : Int) := of_decide_eq_true (by first | (with_reducible assumption) | assumption); obtain ⟨ad360, e360, hx360_0⟩ := Kd.at_int (Kd.R_reads' HO_14.out).2.2 (ji34) p360 q360; cases e360; replace p360 := eq_true p360; replace q360 := eq_true q360) | ((with_reducible refine gate_callee (f := 42) rfl ?_); refine goesB (some 85) rfl rfl Try.func42 #[.slice A0 l0.length c0, .int .i64 a1] rfl ?_; (with_reducible refine (stickfulref14_Last.calls kj21 _ _ l0 a1 t361 false _ ?side1 ?side2 A37.out).mono ?_); (case side1 => repeat (first | exact (Kd.C_below HR0.out HB.out) | (with_reducible refine Kd.C_alloc ?_ _) | (with_reducible refine Kd.C_drewN ?_ _) | (with_reducible refine Kd.C_drew ?_))); (case side2 => exact HC0.out); rintro e w' ⟨rfl, ⟨nd, rfl⟩⟩; refine ⟨_, rfl, ?_⟩; (try (rw [drewN_self w47]; generalize hq_ : World.drewN w47 _ = w47; have n0_ : Aside0 (Kd.R (Kd.int .i64) 3 w47 w.heap.size (fun _ => True) (.slice (some ad360) t355.length co46) t355) := ⟨by rw [← hq_]; exact (rx HO_14)⟩; have n1_ : Aside0 (w47.heap[gb342]? = some (.cells #[.int .i64 a2_0, .int .i64 a2_1] 24 (0, 0))) := ⟨by rw [← hq_]; exact (by (with_reducible repeat (first | refine blk_drewN ?_ _ | refine blk_drew ?_ | refine blk_alloc ?_ _)); exact BK342.out)⟩; have n2_ : Aside0 (w47.heap[gb343]? = some (.cells #[.int .i64 0, .int .i64 0, .bool false] 43 (0, 0))) := ⟨by rw [← hq_]; exact (by (with_reducible repeat (first | refine blk_drewN ?_ _ | refine blk_drew ?_ | refine blk_alloc ?_ _)); exact BK343.out)⟩; have n3_ : Aside0 (Below w.heap.size w w47) := ⟨by rw [← hq_]; exact (bw HB)⟩; clear HO_14 BK342 BK343 HB hq_; have HO_14 := n0_; have BK342 := n1_; have BK343 := n2_; have HB := n3_; clear n0_ n1_ n2_ n3_)); obtain ⟨hcz48_0, hcz48_1, hcz48_2⟩ := cz3 BK343; obtain ⟨hfz48_0, hfz48_1, hfz48_2⟩ := fz3 BK343))
               refine bodyPost_ret (results_ct rfl _ _ gb343 43 #[.int .i64 a1, .int .i64 (rd t355 (ji34)), .bool false] (0, 0) _ rfl (by (with_reducible repeat (first | refine blk_drewN ?_ _ | refine blk_drew ?_ | refine blk_alloc ?_ _)); refine blk_put (cs := #[.int .i64 a1, .int .i64 (rd t355 (ji34)), .bool false]) ?_ 2 _ rfl; (with_reducible repeat (first | refine blk_drewN ?_ _ | refine blk_drew ?_ | refine blk_alloc ?_ _)); refine blk_put (cs := #[.int .i64 a1, .int .i64 0, .bool false]) ?_ 1 _ rfl; (with_reducible repeat (first | refine blk_drewN ?_ _ | refine blk_drew ?_ | refine blk_alloc ?_ _)); refine blk_put (cs := #[.int .i64 0, .int .i64 0, .bool false]) ?_ 0 _ rfl; (with_reducible repeat (first | refine blk_drewN ?_ _ | refine blk_drew ?_ | refine blk_alloc ?_ _)); exact BK343.out) Try.underlying43 rfl (by kernel_rfl)) rfl ?_
               exact ⟨by first | rfl | (simp [errW_none, errW_some] <;> rfl) | (simp only [← hji17, ← hji34]; first | rfl | (simp [errW_none, errW_some] <;> rfl)) | (simp [*, errW_none, errW_some] <;> rfl), by repeat (first | (with_reducible first | exact HB.out | apply below_alloc | apply pw_below_drewN | apply below_drew1 | refine below_set ?_ GE342.out | refine below_set ?_ GE343.out) | exact HB.out)⟩
             ·rw [if_neg c36] at H
              exact absurd H (by simp)
            ·rw [if_neg c35] at H
             exact absurd H (by simp)
           ·rw [if_neg c33] at H
            have c33b0 : (t359 == 0) = false := beq_eq_false_iff_ne.mpr c33
            have c33b1 : (t359 != 0) = true := bne_iff_ne.mpr c33
            simp only [Option.some.injEq, Prod.mk.injEq] at H
            obtain ⟨rfl, rfl, rfl, rfl⟩ := H
            have hnb49 := NB342_343.out
            have hnc49 := NB343_342.out
            obtain ⟨hcz50_0, hcz50_1⟩ := cz2 BK342
            obtain ⟨hfz50_0, hfz50_1⟩ := fz2 BK342
            obtain ⟨Ao51, co51, eo51⟩ := Kd.R_slice HO_14.out
            subst eo51
            go_wp2_with (first | ((with_reducible refine gate_callee (f := 40) rfl ?_); refine goesB (some 69) rfl rfl Try.func40 #[.slice A0 l0.length c0, .int .i64 a1, .slice Ao51 t355.length co51, .agg #[.int .i64 a2_0, .int .i64 a2_1]] rfl ?_; (with_reducible refine (stickfulref14_run.calls kj21 _ _ l0 a1 _ _ t355 a2_0 a2_1 t358 t359 _ ?side1 ?side2 ?side3 ?side4 A32.out).mono ?_); (case side1 => repeat (first | exact (Kd.C_below HR0.out HB.out) | (with_reducible refine Kd.C_alloc ?_ _) | (with_reducible refine Kd.C_drewN ?_ _) | (with_reducible refine Kd.C_drew ?_))); (case side2 => exact HC0.out); (case side3 => repeat (first | exact (Kd.R_reads' HO_14.out).2.2 | (with_reducible refine Kd.C_alloc ?_ _) | (with_reducible refine Kd.C_drewN ?_ _) | (with_reducible refine Kd.C_drew ?_))); (case side4 => exact (Kd.R_reads' HO_14.out).2.1); rintro e w52 ⟨rfl, hb⟩; refine ⟨_, rfl, ?_⟩; replace HO_14 := Aside0.mk (Kd.R_below (rx HO_14) hb); replace BK342 := bb BK342 hb; replace BK343 := bb BK343 hb; replace HB := bh HB hb; (try clear hb); (try clear hb2); (try clear hk); (try clear hi); obtain ⟨hcz53_0, hcz53_1, hcz53_2⟩ := cz3 BK343; obtain ⟨hfz53_0, hfz53_1, hfz53_2⟩ := fz3 BK343))
            refine bodyPost_ret (results_ct rfl _ _ gb343 43 #[.int .i64 0, .int .i64 0, .bool false] (0, 0) _ rfl (by (with_reducible repeat (first | refine blk_drewN ?_ _ | refine blk_drew ?_ | refine blk_alloc ?_ _)); refine blk_put (cs := #[.int .i64 0, .int .i64 0, .bool false]) ?_ 2 _ rfl; (with_reducible repeat (first | refine blk_drewN ?_ _ | refine blk_drew ?_ | refine blk_alloc ?_ _)); refine blk_put (cs := #[.int .i64 0, .int .i64 0, .bool false]) ?_ 1 _ rfl; (with_reducible repeat (first | refine blk_drewN ?_ _ | refine blk_drew ?_ | refine blk_alloc ?_ _)); refine blk_put (cs := #[.int .i64 0, .int .i64 0, .bool false]) ?_ 0 _ rfl; (with_reducible repeat (first | refine blk_drewN ?_ _ | refine blk_drew ?_ | refine blk_alloc ?_ _)); exact BK343.out) Try.underlying43 rfl (by kernel_rfl)) rfl ?_
            exact ⟨by first | rfl | (simp [errW_none, errW_some] <;> rfl) | (simp only [← hji17]; first | rfl | (simp [errW_none, errW_some] <;> rfl)) | (simp [*, errW_none, errW_some] <;> rfl), by repeat (first | (with_reducible first | exact HB.out | apply below_alloc | apply pw_below_drewN | apply below_drew1 | refine below_set ?_ GE342.out | refine below_set ?_ GE343.out) | exact HB.out)⟩
          ·replace c31 := Bool.eq_false_iff.mpr c31
           subst c31
           have H1 : ((stickfulref14_Last.f kj21 l0 a1).bind fun bt363 => (if bt363.2 = true then (some (a1, (rd t344 (ji17)), ((rd t344 (ji17)) == bt363.1), 0)) else (some (a1, (rd t344 (ji17)), false, 0)))) = some (r1, r2, r3, r4) := by rw [if_neg (show ¬ (false = true) by decide)] at H; exact H
           clear H
           have H := H1
           clear H1
           replace H := Option.bind_eq_some_iff.mp H
           obtain ⟨⟨t363, t364⟩, A540, H⟩ := H
           replace H : (if t364 = true then (some (a1, (rd t344 (ji17)), ((rd t344 (ji17)) == t363), 0)) else (some (a1, (rd t344 (ji17)), false, 0))) = some (r1, r2, r3, r4) := H
           have A54 := Aside0.mk A540
           clear A540
           by_cases c55 : t364 = true
           ·subst c55
            have H1 : (some (a1, (rd t344 (ji17)), ((rd t344 (ji17)) == t363), 0)) = some (r1, r2, r3, r4) := by rw [if_pos rfl] at H; exact H
            clear H
            have H := H1
            clear H1
            simp only [Option.some.injEq, Prod.mk.injEq] at H
            obtain ⟨rfl, rfl, rfl, rfl⟩ := H
            go_wp2_with (first | ((with_reducible refine gate_callee (f := 42) rfl ?_); refine goesB (some 85) rfl rfl Try.func42 #[.slice A0 l0.length c0, .int .i64 a1] rfl ?_; (with_reducible refine (stickfulref14_Last.calls kj21 _ _ l0 a1 t363 true _ ?side1 ?side2 A54.out).mono ?_); (case side1 => repeat (first | exact (Kd.C_below HR0.out HB.out) | (with_reducible refine Kd.C_alloc ?_ _) | (with_reducible refine Kd.C_drewN ?_ _) | (with_reducible refine Kd.C_drew ?_))); (case side2 => exact HC0.out); rintro e w' ⟨rfl, ⟨nd, rfl⟩⟩; refine ⟨_, rfl, ?_⟩; (try (rw [drewN_self wc]; generalize hq_ : World.drewN wc _ = wc; have n0_ : Aside0 (Kd.R (Kd.int .i64) 3 wc w.heap.size (fun _ => True) v356 t355) := ⟨by rw [← hq_]; exact (rx HO_14)⟩; have n1_ : Aside0 (wc.heap[gb342]? = some (.cells #[.int .i64 a2_0, .int .i64 a2_1] 24 (0, 0))) := ⟨by rw [← hq_]; exact (by (with_reducible repeat (first | refine blk_drewN ?_ _ | refine blk_drew ?_ | refine blk_alloc ?_ _)); exact BK342.out)⟩; have n2_ : Aside0 (wc.heap[gb343]? = some (.cells #[.int .i64 0, .int .i64 0, .bool false] 43 (0, 0))) := ⟨by rw [← hq_]; exact (by (with_reducible repeat (first | refine blk_drewN ?_ _ | refine blk_drew ?_ | refine blk_alloc ?_ _)); exact BK343.out)⟩; have n3_ : Aside0 (Below w.heap.size w wc) := ⟨by rw [← hq_]; exact (bw HB)⟩; clear HO_14 BK342 BK343 HB hq_; have HO_14 := n0_; have BK342 := n1_; have BK343 := n2_; have HB := n3_; clear n0_ n1_ n2_ n3_)); have hnb56 := NB343_342.out; have hnc56 := NB342_343.out; obtain ⟨hcz57_0, hcz57_1, hcz57_2⟩ := cz3 BK343; obtain ⟨hfz57_0, hfz57_1, hfz57_2⟩ := fz3 BK343))
            refine bodyPost_ret (results_ct rfl _ _ gb343 43 #[.int .i64 a1, .int .i64 (rd t344 (ji17)), .bool ((rd t344 (ji17)) == t363)] (0, 0) _ rfl (by (with_reducible repeat (first | refine blk_drewN ?_ _ | refine blk_drew ?_ | refine blk_alloc ?_ _)); refine blk_put (cs := #[.int .i64 a1, .int .i64 (rd t344 (ji17)), .bool false]) ?_ 2 _ rfl; (with_reducible repeat (first | refine blk_drewN ?_ _ | refine blk_drew ?_ | refine blk_alloc ?_ _)); refine blk_put (cs := #[.int .i64 a1, .int .i64 0, .bool false]) ?_ 1 _ rfl; (with_reducible repeat (first | refine blk_drewN ?_ _ | refine blk_drew ?_ | refine blk_alloc ?_ _)); refine blk_put (cs := #[.int .i64 0, .int .i64 0, .bool false]) ?_ 0 _ rfl; (with_reducible repeat (first | refine blk_drewN ?_ _ | refine blk_drew ?_ | refine blk_alloc ?_ _)); exact BK343.out) Try.underlying43 rfl (by kernel_rfl)) rfl ?_
            exact ⟨by first | rfl | (simp [errW_none, errW_some] <;> rfl) | (simp only [← hji17]; first | rfl | (simp [errW_none, errW_some] <;> rfl)) | (simp [*, errW_none, errW_some] <;> rfl), by repeat (first | (with_reducible first | exact HB.out | apply below_alloc | apply pw_below_drewN | apply below_drew1 | refine below_set ?_ GE342.out | refine below_set ?_ GE343.out) | exact HB.out)⟩
           ·replace c55 := Bool.eq_false_iff.mpr c55
            subst c55
            have H1 : (some (a1, (rd t344 (ji17)), false, 0)) = some (r1, r2, r3, r4) := by rw [if_neg (show ¬ (false = true) by decide)] at H; exact H
            clear H
            have H := H1
            clear H1
            simp only [Option.some.injEq, Prod.mk.injEq] at H
            obtain ⟨rfl, rfl, rfl, rfl⟩ := H
            go_wp2_with (first | ((with_reducible refine gate_callee (f := 42) rfl ?_); refine goesB (some 85) rfl rfl Try.func42 #[.slice A0 l0.length c0, .int .i64 a1] rfl ?_; (with_reducible refine (stickfulref14_Last.calls kj21 _ _ l0 a1 t363 false _ ?side1 ?side2 A54.out).mono ?_); (case side1 => repeat (first | exact (Kd.C_below HR0.out HB.out) | (with_reducible refine Kd.C_alloc ?_ _) | (with_reducible refine Kd.C_drewN ?_ _) | (with_reducible refine Kd.C_drew ?_))); (case side2 => exact HC0.out); rintro e w' ⟨rfl, ⟨nd, rfl⟩⟩; refine ⟨_, rfl, ?_⟩; (try (rw [drewN_self wc]; generalize hq_ : World.drewN wc _ = wc; have n0_ : Aside0 (Kd.R (Kd.int .i64) 3 wc w.heap.size (fun _ => True) v356 t355) := ⟨by rw [← hq_]; exact (rx HO_14)⟩; have n1_ : Aside0 (wc.heap[gb342]? = some (.cells #[.int .i64 a2_0, .int .i64 a2_1] 24 (0, 0))) := ⟨by rw [← hq_]; exact (by (with_reducible repeat (first | refine blk_drewN ?_ _ | refine blk_drew ?_ | refine blk_alloc ?_ _)); exact BK342.out)⟩; have n2_ : Aside0 (wc.heap[gb343]? = some (.cells #[.int .i64 0, .int .i64 0, .bool false] 43 (0, 0))) := ⟨by rw [← hq_]; exact (by (with_reducible repeat (first | refine blk_drewN ?_ _ | refine blk_drew ?_ | refine blk_alloc ?_ _)); exact BK343.out)⟩; have n3_ : Aside0 (Below w.heap.size w wc) := ⟨by rw [← hq_]; exact (bw HB)⟩; clear HO_14 BK342 BK343 HB hq_; have HO_14 := n0_; have BK342 := n1_; have BK343 := n2_; have HB := n3_; clear n0_ n1_ n2_ n3_)); have hnb58 := NB343_342.out; have hnc58 := NB342_343.out; obtain ⟨hcz59_0, hcz59_1, hcz59_2⟩ := cz3 BK343; obtain ⟨hfz59_0, hfz59_1, hfz59_2⟩ := fz3 BK343))
            refine bodyPost_ret (results_ct rfl _ _ gb343 43 #[.int .i64 a1, .int .i64 (rd t344 (ji17)), .bool false] (0, 0) _ rfl (by (with_reducible repeat (first | refine blk_drewN ?_ _ | refine blk_drew ?_ | refine blk_alloc ?_ _)); refine blk_put (cs := #[.int .i64 a1, .int .i64 (rd t344 (ji17)), .bool false]) ?_ 2 _ rfl; (with_reducible repeat (first | refine blk_drewN ?_ _ | refine blk_drew ?_ | refine blk_alloc ?_ _)); refine blk_put (cs := #[.int .i64 a1, .int .i64 0, .bool false]) ?_ 1 _ rfl; (with_reducible repeat (first | refine blk_drewN ?_ _ | refine blk_drew ?_ | refine blk_alloc ?_ _)); refine blk_put (cs := #[.int .i64 0, .int .i64 0, .bool false]) ?_ 0 _ rfl; (with_reducible repeat (first | refine blk_drewN ?_ _ | refine blk_drew ?_ | refine blk_alloc ?_ _)); exact BK343.out) Try.underlying43 rfl (by kernel_rfl)) rfl ?_
            exact ⟨by first | rfl | (simp [errW_none, errW_some] <;> rfl) | (simp only [← hji17]; first | rfl | (simp [errW_none, errW_some] <;> rfl)) | (simp [*, errW_none, errW_some] <;> rfl), by repeat (first | (with_reducible first | exact HB.out | apply below_alloc | apply pw_below_drewN | apply below_drew1 | refine below_set ?_ GE342.out | refine below_set ?_ GE343.out) | exact HB.out)⟩
       ·rw [if_neg c20] at H
        exact absurd H (by simp)
      ·rw [if_neg c19] at H
       exact absurd H (by simp)
     ·rw [if_neg c18] at H
      exact absurd H (by simp)
    ·rw [if_neg c16] at H
     have c16b0 : (t352 == 0) = false := beq_eq_false_iff_ne.mpr c16
     have c16b1 : (t352 != 0) = true := bne_iff_ne.mpr c16
     simp only [Option.some.injEq, Prod.mk.injEq] at H
     obtain ⟨rfl, rfl, rfl, rfl⟩ := H
     have hnb60 := NB342_343.out
     have hnc60 := NB343_342.out
     obtain ⟨hcz61_0, hcz61_1⟩ := cz2 BK342
     obtain ⟨hfz61_0, hfz61_1⟩ := fz2 BK342
     obtain ⟨Ao62, co62, eo62⟩ := Kd.R_slice HO_8.out
     subst eo62
     go_wp2_with (first | ((with_reducible refine gate_callee (f := 40) rfl ?_); refine goesB (some 39) rfl rfl Try.func40 #[.slice A0 l0.length c0, .int .i64 a1, .slice Ao62 t344.length co62, .agg #[.int .i64 a2_0, .int .i64 a2_1]] rfl ?_; (with_reducible refine (stickfulref14_run.calls kj4 _ _ l0 a1 _ _ t344 a2_0 a2_1 t351 t352 _ ?side1 ?side2 ?side3 ?side4 A15.out).mono ?_); (case side1 => repeat (first | exact (Kd.C_below HR0.out HB.out) | (with_reducible refine Kd.C_alloc ?_ _) | (with_reducible refine Kd.C_drewN ?_ _) | (with_reducible refine Kd.C_drew ?_))); (case side2 => exact HC0.out); (case side3 => repeat (first | exact (Kd.R_reads' HO_8.out).2.2 | (with_reducible refine Kd.C_alloc ?_ _) | (with_reducible refine Kd.C_drewN ?_ _) | (with_reducible refine Kd.C_drew ?_))); (case side4 => exact (Kd.R_reads' HO_8.out).2.1); rintro e w63 ⟨rfl, hb⟩; refine ⟨_, rfl, ?_⟩; replace HO_8 := Aside0.mk (Kd.R_below (rx HO_8) hb); replace HO_9 := Aside0.mk (Kd.R_below (rx HO_9) hb); replace BK342 := bb BK342 hb; replace BK343 := bb BK343 hb; replace HB := bh HB hb; (try clear hb); (try clear hb2); (try clear hk); (try clear hi); obtain ⟨hcz64_0, hcz64_1, hcz64_2⟩ := cz3 BK343; obtain ⟨hfz64_0, hfz64_1, hfz64_2⟩ := fz3 BK343))
     refine bodyPost_ret (results_ct rfl _ _ gb343 43 #[.int .i64 0, .int .i64 0, .bool false] (0, 0) _ rfl (by (with_reducible repeat (first | refine blk_drewN ?_ _ | refine blk_drew ?_ | refine blk_alloc ?_ _)); refine blk_put (cs := #[.int .i64 0, .int .i64 0, .bool false]) ?_ 2 _ rfl; (with_reducible repeat (first | refine blk_drewN ?_ _ | refine blk_drew ?_ | refine blk_alloc ?_ _)); refine blk_put (cs := #[.int .i64 0, .int .i64 0, .bool false]) ?_ 1 _ rfl; (with_reducible repeat (first | refine blk_drewN ?_ _ | refine blk_drew ?_ | refine blk_alloc ?_ _)); refine blk_put (cs := #[.int .i64 0, .int .i64 0, .bool false]) ?_ 0 _ rfl; (with_reducible repeat (first | refine blk_drewN ?_ _ | refine blk_drew ?_ | refine blk_alloc ?_ _)); exact BK343.out) Try.underlying43 rfl (by kernel_rfl)) rfl ?_
     exact ⟨by first | rfl | (simp [errW_none, errW_some] <;> rfl) | (simp [*, errW_none, errW_some] <;> rfl), by repeat (first | (with_reducible first | exact HB.out | apply below_alloc | apply pw_below_drewN | apply below_drew1 | refine below_set ?_ GE342.out | refine below_set ?_ GE343.out) | exact HB.out)⟩

/-! ### stickfulref14_Lines: function 25 -/
mutual
def stickfulref14_Lines.l0 : Nat → List (S46) → List (S43) → Int → Int → Int → Int → Bool → Option ((List (S43)) × Int)
 | 0, _, _, _, _, _, _, _ => none
 | k + 1, x0, x10, x367000, x367001, x372000, x372001, x372002 => if x372002 = true then (stickfulref14_Lines.j1 k x0 x10 true x367000 x367001 x372000 x372001 x372002) else (stickfulref14_Lines.j1 k x0 x10 (decide (x372001 < (x0.length : Int))) x367000 x367001 x372000 x372001 x372002)
def stickfulref14_Lines.j1 : Nat → List (S46) → List (S43) → Bool → Int → Int → Int → Int → Bool → Option ((List (S43)) × Int)
 | 0, _, _, _, _, _, _, _, _ => none
 | k + 1, x0, x10, x35, x367000, x367001, x372000, x372001, x372002 => if x35 = true then ((stickfulref14_One.f k x0 x372001 x367000 x367001).bind fun bt375 => (if bt375.2.2.2 = 0 then (if x10.length < 5864062014805 then (stickfulref14_Lines.l0 k x0 (x10 ++ [(⟨bt375.1, bt375.2.1, bt375.2.2.1⟩ : S43)]) x367000 x367001 bt375.1 bt375.2.1 bt375.2.2.1) else (none)) else (some (([] : List (S43)), bt375.2.2.2)))) else (some (x10, 0))
end
def stickfulref14_Lines.f (k : Nat) (l0 : List (S46)) (a1_0 a1_1 a2_0 a2_1 : Int) : Option ((List (S43)) × Int) := if a2_0 < 0 then (some (([] : List (S43)), 2)) else ((stickfulref14_One.f k l0 0 a1_0 a1_1).bind fun bt367 => (if bt367.2.2.2 = 0 then (stickfulref14_Lines.l0 k l0 (([(⟨bt367.1, bt367.2.1, bt367.2.2.1⟩ : S43)] : List (S43))) a2_0 a2_1 bt367.1 bt367.2.1 bt367.2.2.1) else (some (([] : List (S43)), bt367.2.2.2))))
theorem stickfulref14_Lines.mono_l : ∀ k, (∀ y0 y1 y2 y3 y4 y5 y6, LeO (stickfulref14_Lines.l0 k y0 y1 y2 y3 y4 y5 y6) (stickfulref14_Lines.l0 (k + 1) y0 y1 y2 y3 y4 y5 y6)) ∧ (∀ y0 y1 y2 y3 y4 y5 y6 y7, LeO (stickfulref14_Lines.j1 k y0 y1 y2 y3 y4 y5 y6 y7) (stickfulref14_Lines.j1 (k + 1) y0 y1 y2 y3 y4 y5 y6 y7))
 | 0 => ⟨fun _ _ _ _ _ _ _ r h => by simp [stickfulref14_Lines.l0] at h, fun _ _ _ _ _ _ _ _ r h => by simp [stickfulref14_Lines.j1] at h⟩
 | k + 1 => by
  obtain ⟨ih0, ih1⟩ := stickfulref14_Lines.mono_l k
  refine ⟨?_, ?_⟩
  ·intro y0 y1 y2 y3 y4 y5 y6
   unfold stickfulref14_Lines.l0
   repeat' first
   | (with_reducible exact ih0 _ _ _ _ _ _ _)
   | (with_reducible exact ih1 _ _ _ _ _ _ _ _)
   | (with_reducible exact stickfulref14_One.mono _ _ _ _ _)
   | (with_reducible exact LeO.refl _)
   | (with_reducible exact LeO.none _)
   | (with_reducible refine LeO.ite ?_ ?_)
   | (with_reducible refine LeO.bind ?_ (fun _ => ?_))
   | exact ih0 _ _ _ _ _ _ _
   | exact ih1 _ _ _ _ _ _ _ _
   | exact stickfulref14_One.mono _ _ _ _ _
   | exact LeO.none _
   | refine LeO.ite ?_ ?_
   | refine LeO.bind ?_ (fun _ => ?_)
  ·intro y0 y1 y2 y3 y4 y5 y6 y7
   unfold stickfulref14_Lines.j1
   repeat' first
   | (with_reducible exact ih0 _ _ _ _ _ _ _)
   | (with_reducible exact ih1 _ _ _ _ _ _ _ _)
   | (with_reducible exact stickfulref14_One.mono _ _ _ _ _)
   | (with_reducible exact LeO.refl _)
   | (with_reducible exact LeO.none _)
   | (with_reducible refine LeO.ite ?_ ?_)
   | (with_reducible refine LeO.bind ?_ (fun _ => ?_))
   | exact ih0 _ _ _ _ _ _ _
   | exact ih1 _ _ _ _ _ _ _ _
   | exact stickfulref14_One.mono _ _ _ _ _
   | exact LeO.none _
   | refine LeO.ite ?_ ?_
   | refine LeO.bind ?_ (fun _ => ?_)
theorem stickfulref14_Lines.mono : ∀ a0 a1 a2 a3 a4 k, LeO (stickfulref14_Lines.f k a0 a1 a2 a3 a4) (stickfulref14_Lines.f (k + 1) a0 a1 a2 a3 a4) := by
 intro a0 a1 a2 a3 a4 k
 obtain ⟨ih0, ih1⟩ := stickfulref14_Lines.mono_l k
 unfold stickfulref14_Lines.f
 repeat' first
   | (with_reducible exact ih0 _ _ _ _ _ _ _)
   | (with_reducible exact ih1 _ _ _ _ _ _ _ _)
   | (with_reducible exact stickfulref14_One.mono _ _ _ _ _)
   | (with_reducible exact LeO.refl _)
   | (with_reducible exact LeO.none _)
   | (with_reducible refine LeO.ite ?_ ?_)
   | (with_reducible refine LeO.bind ?_ (fun _ => ?_))
   | exact ih0 _ _ _ _ _ _ _
   | exact ih1 _ _ _ _ _ _ _ _
   | exact stickfulref14_One.mono _ _ _ _ _
   | exact LeO.none _
   | refine LeO.ite ?_ ?_
   | refine LeO.bind ?_ (fun _ => ?_)
set_option maxHeartbeats 8000000 in
set_option maxRecDepth 100000 in
theorem stickfulref14_Lines.calls (k : Nat) (A0 : Option Addr) (c0 : Nat) (l0 : List (S46)) (a1_0 a1_1 a2_0 a2_1 : Int) (r1 : List (S43)) (r2 : Int) (w : World) (hr0 : Kd.C k46 w A0 l0.length l0) (hc0 : l0.length ≤ c0) (h : stickfulref14_Lines.f k l0 a1_0 a1_1 a2_0 a2_1 = some (r1, r2)) :
  Calls Try.prog 25 #[.slice A0 l0.length c0, .agg #[.int .i64 a1_0, .int .i64 a1_1], .agg #[.int .i64 a2_0, .int .i64 a2_1]] w fun e w' => ∃ v0_ : Value, e = .returned (.tuple #[v0_, .int .i64 r2]) ∧ Kd.R k43 43 w' w.heap.size (fun _ => True) v0_ r1 ∧ Below w.heap.size w w' := by
 have hu24 := Try.underlying24
 have hu43 := Try.underlying43
 have HR0 := Aside0.mk hr0
 have HC0 := Aside0.mk hc0
 clear hr0 hc0
 have HB := Aside0.mk (Below.refl w.heap.size w)
 have H : (if a2_0 < 0 then (some (([] : List (S43)), 2)) else ((stickfulref14_One.f k l0 0 a1_0 a1_1).bind fun bt367 => (if bt367.2.2.2 = 0 then (stickfulref14_Lines.l0 k l0 (([(⟨bt367.1, bt367.2.1, bt367.2.2.1⟩ : S43)] : List (S43))) a2_0 a2_1 bt367.1 bt367.2.1 bt367.2.2.1) else (some (([] : List (S43)), bt367.2.2.2))))) = some (r1, r2) := h
 clear h
 by_cases c4 : a2_0 < 0
 ·rw [if_pos c4] at H
  have c4b0 : decide (a2_0 < 0) = true := decide_eq_true c4
  clear c4
  simp only [Option.some.injEq, Prod.mk.injEq] at H
  obtain ⟨rfl, rfl⟩ := H
  go_enter Try.func25, Try.ntmps25
  go_wp2_with (first | ((with_reducible refine gate_dst (N := 4) rfl ?_); (try (refine gate_guard (by rfl) ?_; dsimp only)); refine box_event ?hg (N := 4) ?hd (cs := #[.int .i64 a1_0, .int .i64 a1_1]) (t := 24) ?hr ?_; (case hd => rfl); (case hg => rfl); (case hr => first | (go_simp; done) | (go_simp; rfl)); intro gb365 hg w5 hbox hb; have BK365 := Aside0.mk (hbox); have GW365 := bge HB hg; have GE365 := bge HB hg; replace HB := bh HB hb; clear hb hbox hg) | ((with_reducible refine gate_dst (N := 5) rfl ?_); (try (refine gate_guard (by rfl) ?_; dsimp only)); refine box_event ?hg (N := 5) ?hd (cs := #[.int .i64 a2_0, .int .i64 a2_1]) (t := 24) ?hr ?_; (case hd => rfl); (case hg => rfl); (case hr => first | (go_simp; done) | (go_simp; rfl)); intro gb366 hg w6 hbox hb; have BK366 := Aside0.mk (hbox); have GW366 := bge HB hg; have GE366 := bge HB hg; replace HB := bh HB hb; have NB365_366 := nbl BK365 hg; have NB366_365 := nbg BK365 hg; replace BK365 := bb BK365 hb; clear hb hbox hg; have hnb7 := NB366_365.out; have hnc7 := NB365_366.out; obtain ⟨hcz8_0, hcz8_1⟩ := cz2 BK366; obtain ⟨hfz8_0, hfz8_1⟩ := fz2 BK366))
  go_ret2
  exact ⟨_, by first | rfl | (simp [errW_none, errW_some] <;> rfl) | (simp [*, errW_none, errW_some] <;> rfl), by first | exact Kd.R_nil _ _ _ _ _ | exact Kd.N_nil _ _ _ _ _ | exact Kd.V_nil _ _ _ _ _ | exact Kd.Q_nil _ _ _ _ _ | exact Kd.S_nil _ _ _ _ _, by repeat (first | (with_reducible first | exact HB.out | apply below_alloc | apply pw_below_drewN | apply below_drew1 | refine below_set ?_ GE365.out | refine below_set ?_ GE366.out) | exact HB.out)⟩
 ·rw [if_neg c4] at H
  have c4b0 : decide (a2_0 < 0) = false := decide_eq_false c4
  clear c4
  replace H := Option.bind_eq_some_iff.mp H
  obtain ⟨⟨t367, t368, t369, t370⟩, A90, H⟩ := H
  replace H : (if t370 = 0 then (stickfulref14_Lines.l0 k l0 (([(⟨t367, t368, t369⟩ : S43)] : List (S43))) a2_0 a2_1 t367 t368 t369) else (some (([] : List (S43)), t370))) = some (r1, r2) := H
  have A9 := Aside0.mk A90
  clear A90
  by_cases c10 : t370 = 0
  ·rw [if_pos c10] at H
   have c10b0 : (t370 == 0) = true := beq_iff_eq.mpr c10
   have c10b1 : (t370 != 0) = false := bne_eq_false_iff_eq.mpr c10
   clear c10
   obtain ⟨y372, hy372⟩ : ∃ y_ : List (S43), y_ = (([(⟨t367, t368, t369⟩ : S43)] : List (S43))) := ⟨_, rfl⟩
   replace H : (stickfulref14_Lines.l0 k l0 y372 a2_0 a2_1 t367 t368 t369) = some (r1, r2) := by first | (rw [hy372]; with_reducible exact H) | (have H2_ := (Option.bind_some _ _).symm.trans H; rw [hy372]; with_reducible exact H2_) | (have H2_ := (Option.bind_some _ _).symm.trans H; with_reducible exact H2_) | with_reducible exact H | (rw [hy372]; exact H) | exact H
   have Ny372 := Aside0.mk hy372
   clear hy372
   have H' := Aside0.mk H
   clear H
   go_enter Try.func25, Try.ntmps25
   go_wp2_with (first | ((with_reducible refine gate_dst (N := 4) rfl ?_); (try (refine gate_guard (by rfl) ?_; dsimp only)); refine box_event ?hg (N := 4) ?hd (cs := #[.int .i64 a1_0, .int .i64 a1_1]) (t := 24) ?hr ?_; (case hd => rfl); (case hg => rfl); (case hr => first | (go_simp; done) | (go_simp; rfl)); intro gb365 hg w11 hbox hb; have BK365 := Aside0.mk (hbox); have GW365 := bge HB hg; have GE365 := bge HB hg; replace HB := bh HB hb; clear hb hbox hg) | ((with_reducible refine gate_dst (N := 5) rfl ?_); (try (refine gate_guard (by rfl) ?_; dsimp only)); refine box_event ?hg (N := 5) ?hd (cs := #[.int .i64 a2_0, .int .i64 a2_1]) (t := 24) ?hr ?_; (case hd => rfl); (case hg => rfl); (case hr => first | (go_simp; done) | (go_simp; rfl)); intro gb366 hg w12 hbox hb; have BK366 := Aside0.mk (hbox); have GW366 := bge HB hg; have GE366 := bge HB hg; replace HB := bh HB hb; have NB365_366 := nbl BK365 hg; have NB366_365 := nbg BK365 hg; replace BK365 := bb BK365 hb; clear hb hbox hg; have hnb13 := NB366_365.out; have hnc13 := NB365_366.out; obtain ⟨hcz14_0, hcz14_1⟩ := cz2 BK366; obtain ⟨hfz14_0, hfz14_1⟩ := fz2 BK366; obtain ⟨hcz15_0, hcz15_1⟩ := cz2 BK365; obtain ⟨hfz15_0, hfz15_1⟩ := fz2 BK365) | ((with_reducible refine gate_callee (f := 24) rfl ?_); refine goesB (some 19) rfl rfl Try.func24 #[.slice A0 l0.length c0, .int .i64 0, .agg #[.int .i64 a1_0, .int .i64 a1_1]] rfl ?_; (with_reducible refine (stickfulref14_One.calls k _ _ l0 0 a1_0 a1_1 t367 t368 t369 t370 _ ?side1 ?side2 A9.out).mono ?_); (case side1 => repeat (first | exact (Kd.C_below HR0.out HB.out) | (with_reducible refine Kd.C_alloc ?_ _) | (with_reducible refine Kd.C_drewN ?_ _) | (with_reducible refine Kd.C_drew ?_))); (case side2 => exact HC0.out); rintro e w16 ⟨rfl, hb⟩; refine ⟨_, rfl, ?_⟩; replace BK365 := bb BK365 hb; replace BK366 := bb BK366 hb; replace HB := bh HB hb; (try clear hb); (try clear hb2); (try clear hk); (try clear hi)) | ((with_reducible refine gate_dst (N := 8) rfl ?_); (try (refine gate_guard (by rfl) ?_; dsimp only)); refine box_event ?hg (N := 8) ?hd (cs := #[.int .i64 0, .int .i64 0, .bool false]) (t := 43) ?hr ?_; (case hd => rfl); (case hg => rfl); (case hr => first | (go_simp; done) | (go_simp; rfl)); intro gb371 hg w17 hbox hb; have BK371 := Aside0.mk (hbox); have GW371 := bge HB hg; have GE371 := bge HB hg; replace HB := bh HB hb; have NB365_371 := nbl BK365 hg; have NB371_365 := nbg BK365 hg; replace BK365 := bb BK365 hb; have NB366_371 := nbl BK366 hg; have NB371_366 := nbg BK366 hg; replace BK366 := bb BK366 hb; clear hb hbox hg; have hnb18 := NB371_365.out; have hnc18 := NB365_371.out; have hnb19 := NB371_366.out; have hnc19 := NB366_371.out; obtain ⟨hcz20_0, hcz20_1, hcz20_2⟩ := cz3 BK371; obtain ⟨hfz20_0, hfz20_1, hfz20_2⟩ := fz3 BK371) | ((with_reducible refine gate_dst (N := 26) rfl ?_); (try (refine gate_guard (by rfl) ?_; dsimp only)); refine Kd.R_lit k43 _ 43 ?hg (N := 26) ?hd (xs := ([(⟨t367, t368, t369⟩ : S43)] : List (S43))) (inner := [.int .i64 t367, .int .i64 t368, .bool t369]) (ok := fun _ => True) (okp := fun _ => True) ?hr ?hp (fun _ hk => hk) trivial (Below.refl _ _) (Nat.le_refl _) (by simp) ?_; (case hd => rfl); (case hg => rfl); (case hr => first | (go_simp; done) | (go_simp; rfl)); (case hp => exact (Reps.c3 (show Kd.M k43 _ _ _ (⟨t367, t368, t369⟩ : S43) [.int .i64 t367, .int .i64 t368, .bool t369] from (k43_mkM _ _ _ (⟨t367, t368, t369⟩ : S43) )) (Reps.none _ _))); intro v373 w21 ho22 hb hg_ hnew_; clear hg_ hnew_; (first | rw [← Ny372.out] at ho22 | (simp only [Int.reduceToNat] at ho22; rw [← Ny372.out] at ho22)); have HO374 := Aside0.mk (Kd.R_lower (Kd.R_newB ho22 (o := .cells #[.int .i64 t367, .int .i64 t368, .bool t369] 43 (0, 0)) (bp BK371)) (below_size (bw HB))); replace BK365 := bb BK365 hb; replace BK366 := bb BK366 hb; replace BK371 := Aside0.mk (blk_below (o := .cells #[.int .i64 t367, .int .i64 t368, .bool t369] 43 (0, 0)) (bp BK371) hb); replace HB := bh HB hb; clear hb ho22))
   go_loopg [10] k (fun kq v10 w' => ∃ (x10_1 : List (S43)) (x372000_1 x372001_1 : Int) (x372002_1 : Bool), Aside0 (stickfulref14_Lines.l0 kq l0 x10_1 a2_0 a2_1 x372000_1 x372001_1 x372002_1 = some (r1, r2)) ∧ Aside0 (kq ≤ k) ∧ Aside0 (Kd.R k43 43 w' w.heap.size (fun k_ => k_ ≠ gb371) v10 x10_1) ∧ Aside0 (w'.heap[gb365]? = some (.cells #[.int .i64 a1_0, .int .i64 a1_1] 24 (0, 0))) ∧ Aside0 (w'.heap[gb366]? = some (.cells #[.int .i64 a2_0, .int .i64 a2_1] 24 (0, 0))) ∧ Aside0 (w'.heap[gb371]? = some (.cells #[.int .i64 x372000_1, .int .i64 x372001_1, .bool x372002_1] 43 (0, 0))) ∧ Aside0 (Below w.heap.size w w'))
   case atStart => exact ⟨(y372), (t367), (t368), (t369), H', ⟨Nat.le_refl _⟩, ⟨by (with_reducible repeat (first | apply Kd.R_alloc | apply Kd.R_drewN | apply Kd.R_drew)); exact Kd.R_mono HO374.out (fun _ hk => hk.2)⟩, ⟨by (with_reducible repeat (first | refine blk_drewN ?_ _ | refine blk_drew ?_ | refine blk_alloc ?_ _)); exact BK365.out⟩, ⟨by (with_reducible repeat (first | refine blk_drewN ?_ _ | refine blk_drew ?_ | refine blk_alloc ?_ _)); exact BK366.out⟩, ⟨by (with_reducible repeat (first | refine blk_drewN ?_ _ | refine blk_drew ?_ | refine blk_alloc ?_ _)); exact BK371.out⟩, ⟨by repeat (first | (with_reducible first | exact HB.out | apply below_alloc | apply pw_below_drewN | apply below_drew1 | refine below_set ?_ GE365.out | refine below_set ?_ GE366.out | refine below_set ?_ GE371.out) | exact HB.out)⟩⟩
   case round =>
    clear H'
    try clear c1
    try clear c2
    try clear p2
    try clear c3
    try clear c4
    try clear c4b0
    try clear c7
    try clear c10
    try clear c10b0
    try clear c10b1
    try clear c13
    try clear c18
    try clear c19
    try clear hcz14_0
    try clear hcz14_1
    try clear hcz15_0
    try clear hcz15_1
    try clear hcz20_0
    try clear hcz20_1
    try clear hcz20_2
    try clear hcz8_0
    try clear hcz8_1
    try clear hfz14_0
    try clear hfz14_1
    try clear hfz15_0
    try clear hfz15_1
    try clear hfz20_0
    try clear hfz20_1
    try clear hfz20_2
    try clear hfz8_0
    try clear hfz8_1
    obtain ⟨x10_1, x372000_1, x372001_1, x372002_1, HA, HK1, HO_10, BK365, BK366, BK371, HB⟩ := hrel
    cases gk with
    | zero => exact absurd HA.out (by simp [stickfulref14_Lines.l0])
    | succ k1 =>
     have H := HA.out
     clear HA
     simp only [stickfulref14_Lines.l0] at H
     have HC23 := Aside0.mk H
     clear H
     go_upto_region 7 with (fail)
     go_cut [35] (fun v35 wc => ∃ (kq : Nat) (x35_22 : Bool), v35 = .bool x35_22 ∧ Aside0 (stickfulref14_Lines.j1 kq l0 x10_1 x35_22 a2_0 a2_1 x372000_1 x372001_1 x372002_1 = some (r1, r2)) ∧ Aside0 (kq ≤ k1) ∧ Aside0 (Kd.R k43 43 wc w.heap.size (fun k_ => k_ ≠ gb371) u10 x10_1) ∧ Aside0 (wc.heap[gb365]? = some (.cells #[.int .i64 a1_0, .int .i64 a1_1] 24 (0, 0))) ∧ Aside0 (wc.heap[gb366]? = some (.cells #[.int .i64 a2_0, .int .i64 a2_1] 24 (0, 0))) ∧ Aside0 (wc.heap[gb371]? = some (.cells #[.int .i64 x372000_1, .int .i64 x372001_1, .bool x372002_1] 43 (0, 0))) ∧ Aside0 (Below w.heap.size w wc))
     case first =>
      have H := HC23.out
      clear HC23
      by_cases c24 : x372002_1 = true
      ·subst c24
       have H1 : (stickfulref14_Lines.j1 k1 l0 x10_1 true a2_0 a2_1 x372000_1 x372001_1 true) = some (r1, r2) := by rw [if_pos rfl] at H; exact H
       clear H
       have H := H1
       clear H1
       have H' := Aside0.mk H
       clear H
       have hnb25 := NB371_365.out
       have hnc25 := NB365_371.out
       have hnb26 := NB371_366.out
       have hnc26 := NB366_371.out
       obtain ⟨hcz27_0, hcz27_1, hcz27_2⟩ := cz3 BK371
       obtain ⟨hfz27_0, hfz27_1, hfz27_2⟩ := fz3 BK371
       go_wp2
       go_meet
       case rel => exact ⟨_, (true), (by first | rfl | (simp; done) | (simp [*]; done)), H', ⟨by have := HK1.out; first | omega | exact Nat.le_refl _⟩, ⟨by (with_reducible repeat (first | apply Kd.R_alloc | apply Kd.R_drewN | apply Kd.R_drew)); exact HO_10.out⟩, ⟨by (with_reducible repeat (first | refine blk_drewN ?_ _ | refine blk_drew ?_ | refine blk_alloc ?_ _)); exact BK365.out⟩, ⟨by (with_reducible repeat (first | refine blk_drewN ?_ _ | refine blk_drew ?_ | refine blk_alloc ?_ _)); exact BK366.out⟩, ⟨by (with_reducible repeat (first | refine blk_drewN ?_ _ | refine blk_drew ?_ | refine blk_alloc ?_ _)); exact BK371.out⟩, ⟨by repeat (first | (with_reducible first | exact HB.out | apply below_alloc | apply pw_below_drewN | apply below_drew1 | refine below_set ?_ GE365.out | refine below_set ?_ GE366.out | refine below_set ?_ GE371.out) | exact HB.out)⟩⟩
      ·replace c24 := Bool.eq_false_iff.mpr c24
       subst c24
       have H1 : (stickfulref14_Lines.j1 k1 l0 x10_1 (decide (x372001_1 < (l0.length : Int))) a2_0 a2_1 x372000_1 x372001_1 false) = some (r1, r2) := by rw [if_neg (show ¬ (false = true) by decide)] at H; exact H
       clear H
       have H := H1
       clear H1
       have H' := Aside0.mk H
       clear H
       have hnb28 := NB371_365.out
       have hnc28 := NB365_371.out
       have hnb29 := NB371_366.out
       have hnc29 := NB366_371.out
       obtain ⟨hcz30_0, hcz30_1, hcz30_2⟩ := cz3 BK371
       obtain ⟨hfz30_0, hfz30_1, hfz30_2⟩ := fz3 BK371
       go_wp2
       go_meet
       case rel => exact ⟨_, (decide (x372001_1 < (l0.length : Int))), (by first | rfl | (simp; done) | (simp [*]; done)), H', ⟨by have := HK1.out; first | omega | exact Nat.le_refl _⟩, ⟨by (with_reducible repeat (first | apply Kd.R_alloc | apply Kd.R_drewN | apply Kd.R_drew)); exact HO_10.out⟩, ⟨by (with_reducible repeat (first | refine blk_drewN ?_ _ | refine blk_drew ?_ | refine blk_alloc ?_ _)); exact BK365.out⟩, ⟨by (with_reducible repeat (first | refine blk_drewN ?_ _ | refine blk_drew ?_ | refine blk_alloc ?_ _)); exact BK366.out⟩, ⟨by (with_reducible repeat (first | refine blk_drewN ?_ _ | refine blk_drew ?_ | refine blk_alloc ?_ _)); exact BK371.out⟩, ⟨by repeat (first | (with_reducible first | exact HB.out | apply below_alloc | apply pw_below_drewN | apply below_drew1 | refine below_set ?_ GE365.out | refine below_set ?_ GE366.out | refine below_set ?_ GE371.out) | exact HB.out)⟩⟩
     case rest =>
      clear HC23
      try clear c1
      try clear c2
      try clear p2
      try clear c3
      try clear c4
      try clear c4b0
      try clear c7
      try clear c10
      try clear c10b0
      try clear c10b1
      try clear c13
      try clear c18
      try clear c19
      try clear c24
      try clear c25
      try clear c26
      try clear c28
      try clear c29
      try clear hcz14_0
      try clear hcz14_1
      try clear hcz15_0
      try clear hcz15_1
      try clear hcz20_0
      try clear hcz20_1
      try clear hcz20_2
      try clear hcz27_0
      try clear hcz27_1
      try clear hcz27_2
      try clear hcz30_0
      try clear hcz30_1
      try clear hcz30_2
      try clear hcz8_0
      try clear hcz8_1
      try clear hfz14_0
      try clear hfz14_1
      try clear hfz15_0
      try clear hfz15_1
      try clear hfz20_0
      try clear hfz20_1
      try clear hfz20_2
      try clear hfz27_0
      try clear hfz27_1
      try clear hfz27_2
      try clear hfz30_0
      try clear hfz30_1
      try clear hfz30_2
      try clear hfz8_0
      try clear hfz8_1
      try clear p2
      obtain ⟨kq, x35_22, rfl, HA, HJ22, HO_10, BK365, BK366, BK371, HB⟩ := hcut
      cases kq with
      | zero => exact absurd HA.out (by simp [stickfulref14_Lines.j1])
      | succ kj22 =>
       have H := HA.out
       clear HA
       simp only [stickfulref14_Lines.j1] at H
       by_cases c31 : x35_22 = true
       ·subst c31
        have H1 : ((stickfulref14_One.f kj22 l0 x372001_1 a2_0 a2_1).bind fun bt375 => (if bt375.2.2.2 = 0 then (if x10_1.length < 5864062014805 then (stickfulref14_Lines.l0 kj22 l0 (x10_1 ++ [(⟨bt375.1, bt375.2.1, bt375.2.2.1⟩ : S43)]) a2_0 a2_1 bt375.1 bt375.2.1 bt375.2.2.1) else (none)) else (some (([] : List (S43)), bt375.2.2.2)))) = some (r1, r2) := by rw [if_pos rfl] at H; exact H
        clear H
        have H := H1
        clear H1
        replace H := Option.bind_eq_some_iff.mp H
        obtain ⟨⟨t375, t376, t377, t378⟩, A320, H⟩ := H
        replace H : (if t378 = 0 then (if x10_1.length < 5864062014805 then (stickfulref14_Lines.l0 kj22 l0 (x10_1 ++ [(⟨t375, t376, t377⟩ : S43)]) a2_0 a2_1 t375 t376 t377) else (none)) else (some (([] : List (S43)), t378))) = some (r1, r2) := H
        have A32 := Aside0.mk A320
        clear A320
        by_cases c33 : t378 = 0
        ·rw [if_pos c33] at H
         have c33b0 : (t378 == 0) = true := beq_iff_eq.mpr c33
         have c33b1 : (t378 != 0) = false := bne_eq_false_iff_eq.mpr c33
         clear c33
         by_cases c34 : x10_1.length < 5864062014805
         ·rw [if_pos c34] at H
          have LMc34 := Aside0.mk c34
          clear c34
          obtain ⟨y380, hy380⟩ : ∃ y_ : List (S43), y_ = (x10_1 ++ [(⟨t375, t376, t377⟩ : S43)]) := ⟨_, rfl⟩
          replace H : (stickfulref14_Lines.l0 kj22 l0 y380 a2_0 a2_1 t375 t376 t377) = some (r1, r2) := by first | (rw [hy380]; with_reducible exact H) | (have H2_ := (Option.bind_some _ _).symm.trans H; rw [hy380]; with_reducible exact H2_) | (have H2_ := (Option.bind_some _ _).symm.trans H; with_reducible exact H2_) | with_reducible exact H | (rw [hy380]; exact H) | exact H
          have Ny380 := Aside0.mk hy380
          clear hy380
          have H' := Aside0.mk H
          clear H
          have hnb35 := NB371_365.out
          have hnc35 := NB365_371.out
          have hnb36 := NB371_366.out
          have hnc36 := NB366_371.out
          obtain ⟨hcz37_0, hcz37_1, hcz37_2⟩ := cz3 BK371
          obtain ⟨hfz37_0, hfz37_1, hfz37_2⟩ := fz3 BK371
          have hnb38 := NB366_365.out
          have hnc38 := NB365_366.out
          obtain ⟨hcz39_0, hcz39_1⟩ := cz2 BK366
          obtain ⟨hfz39_0, hfz39_1⟩ := fz2 BK366
          go_wp2_with (first | ((with_reducible refine gate_callee (f := 24) rfl ?_); refine goesB (some 41) rfl rfl Try.func24 #[.slice A0 l0.length c0, .int .i64 x372001_1, .agg #[.int .i64 a2_0, .int .i64 a2_1]] rfl ?_; (with_reducible refine (stickfulref14_One.calls kj22 _ _ l0 x372001_1 a2_0 a2_1 t375 t376 t377 t378 _ ?side1 ?side2 A32.out).mono ?_); (case side1 => repeat (first | exact (Kd.C_below HR0.out HB.out) | (with_reducible refine Kd.C_alloc ?_ _) | (with_reducible refine Kd.C_drewN ?_ _) | (with_reducible refine Kd.C_drew ?_))); (case side2 => exact HC0.out); rintro e w40 ⟨rfl, hb⟩; refine ⟨_, rfl, ?_⟩; replace HO_10 := Aside0.mk (Kd.R_below (rx HO_10) hb); replace BK365 := bb BK365 hb; replace BK366 := bb BK366 hb; replace BK371 := bb BK371 hb; replace HB := bh HB hb; (try clear hb); (try clear hb2); (try clear hk); (try clear hi)) | ((with_reducible refine gate_dst (N := 11) rfl ?_); (try (refine gate_guard (by rfl) ?_; dsimp only)); refine box_event ?hg (N := 11) ?hd (cs := #[.int .i64 0, .int .i64 0, .bool false]) (t := 43) ?hr ?_; (case hd => rfl); (case hg => rfl); (case hr => first | (go_simp; done) | (go_simp; rfl)); intro gb379 hg w41 hbox hb; replace HO_10 := Aside0.mk (Kd.R_below (Kd.R_elderB (rx HO_10) gb379 (Nat.le_of_eq hg.symm)) hb); have BK379 := Aside0.mk (hbox); have GW379 := bge HB hg; have GE379 := bge HB hg; replace HB := bh HB hb; have NB365_379 := nbl BK365 hg; have NB379_365 := nbg BK365 hg; replace BK365 := bb BK365 hb; have NB366_379 := nbl BK366 hg; have NB379_366 := nbg BK366 hg; replace BK366 := bb BK366 hb; have NB371_379 := nbl BK371 hg; have NB379_371 := nbg BK371 hg; replace BK371 := bb BK371 hb; clear hb hbox hg; have hnb42 := NB379_365.out; have hnc42 := NB365_379.out; have hnb43 := NB379_366.out; have hnc43 := NB366_379.out; have hnb44 := NB379_371.out; have hnc44 := NB371_379.out; obtain ⟨hcz45_0, hcz45_1, hcz45_2⟩ := cz3 BK379; obtain ⟨hfz45_0, hfz45_1, hfz45_2⟩ := fz3 BK379; obtain ⟨hcz46_0, hcz46_1, hcz46_2⟩ := cz3 BK371; obtain ⟨hfz46_0, hfz46_1, hfz46_2⟩ := fz3 BK371) | ((with_reducible refine gate_builtin (b := .append) (xs := #[.tmp 48, .tmp 50]) rfl ?_); (try (refine gate_guard (by rfl) ?_; dsimp only)); at_builtin; refine Kd.R_append k43 (w0 := w) w.heap.size rfl (.tmp 48) (.tmp 50) 29 43 (.agg #[(.int .i64 0), (.int .i64 0), (.bool false)]) 24 rfl Try.underlying29 info43 rfl (by decide) (by omega) u10 x10_1 (⟨t375, t376, t377⟩ : S43) [.int .i64 t375, .int .i64 t376, .bool t377] (fun k_ => k_ ≠ gb371 ∧ k_ ≠ gb379) (fun _ => False) rfl (by first | (go_simp; done) | (go_simp; rfl)) ?aP (fun _ hk => hk.elim) ?aF ?aO ?aB ?aS ?aL ?_; (case aP => exact k43_mkM _ _ _ (⟨t375, t376, t377⟩ : S43)); (case aB => exact (bw HB)); (case aF => exact (fun k_ hk => ⟨Kd.freshB (o := .cells #[.int .i64 t375, .int .i64 t376, .bool t377] 43 (0, 0)) (bp BK371) k_ hk, Kd.freshB (o := .cells #[.int .i64 t375, .int .i64 t376, .bool t377] 43 (0, 0)) (bp BK379) k_ hk⟩)); (case aO => exact (by (with_reducible repeat (first | apply Kd.R_alloc | apply Kd.R_drewN | apply Kd.R_drew)); exact Kd.R_mono (Kd.R_far (p := ⟨gb371, 2, none⟩) (Kd.R_far (p := ⟨gb371, 1, none⟩) (Kd.R_far (p := ⟨gb371, 0, none⟩) (Kd.R_far (p := ⟨gb379, 2, none⟩) (Kd.R_far (p := ⟨gb379, 1, none⟩) (Kd.R_far (p := ⟨gb379, 0, none⟩) (Kd.R_mono (Kd.R_mono HO_10.out (fun k_ hk => (⟨hk, hk.2⟩ : _ ∧ k_ ≠ gb379))) (fun k_ hk => (⟨hk, hk.1.1⟩ : _ ∧ k_ ≠ gb371))) (fun _ hk => hk.1.2) (.int .i64 t375)) (fun _ hk => hk.1.2) (.int .i64 t376)) (fun _ hk => hk.1.2) (.bool t377)) (fun _ hk => hk.2) (.int .i64 t375)) (fun _ hk => hk.2) (.int .i64 t376)) (fun _ hk => hk.2) (.bool t377)) (fun _ hk => ⟨hk.1.1.1, hk.1.1.2⟩))); (case aS => exact (below_size (bw HB))); (case aL => have := LMc34.out; omega); intro v381 w47 ho hb hg hat; rw [← Ny380.out] at ho; replace BK365 := Aside0.mk (blk_grown (bx BK365) hg (by first | exact Kd.R_ne HO_10.out BK365.out (by decide) | exact (fun e => by have z := And.left HO_10.out _ e.symm; simp at z))); replace BK366 := Aside0.mk (blk_grown (bx BK366) hg (by first | exact Kd.R_ne HO_10.out BK366.out (by decide) | exact (fun e => by have z := And.left HO_10.out _ e.symm; simp at z))); replace BK371 := Aside0.mk (blk_grown (o := .cells #[.int .i64 t375, .int .i64 t376, .bool t377] 43 (0, 0)) (bp BK371) hg (Kd.R_away HO_10.out (fun _ hk => hk.1))); replace BK379 := Aside0.mk (blk_grown (o := .cells #[.int .i64 t375, .int .i64 t376, .bool t377] 43 (0, 0)) (bp BK379) hg (Kd.R_away HO_10.out (fun _ hk => hk.2))); replace HB := Aside0.mk (hb); have HO382 := Aside0.mk (ho); clear HO_10; clear ho hb hg hat))
          go_roundg kj22
          case measure => have := HK1.out; have := HJ22.out; omega
          case rel => exact ⟨(y380), (t375), (t376), (t377), H', ⟨by have := HK1.out; have := HJ22.out; omega⟩, ⟨by (with_reducible repeat (first | apply Kd.R_alloc | apply Kd.R_drewN | apply Kd.R_drew)); exact Kd.R_mono HO382.out (fun _ hk => hk.1)⟩, ⟨by (with_reducible repeat (first | refine blk_drewN ?_ _ | refine blk_drew ?_ | refine blk_alloc ?_ _)); exact BK365.out⟩, ⟨by (with_reducible repeat (first | refine blk_drewN ?_ _ | refine blk_drew ?_ | refine blk_alloc ?_ _)); exact BK366.out⟩, ⟨by (with_reducible repeat (first | refine blk_drewN ?_ _ | refine blk_drew ?_ | refine blk_alloc ?_ _)); exact BK371.out⟩, ⟨by repeat (first | (with_reducible first | exact HB.out | apply below_alloc | apply pw_below_drewN | apply below_drew1 | refine below_set ?_ GE365.out | refine below_set ?_ GE366.out | refine below_set ?_ GE371.out | refine below_set ?_ GE379.out) | exact HB.out)⟩⟩
         ·rw [if_neg c34] at H
          exact absurd H (by simp)
        ·rw [if_neg c33] at H
         have c33b0 : (t378 == 0) = false := beq_eq_false_iff_ne.mpr c33
         have c33b1 : (t378 != 0) = true := bne_iff_ne.mpr c33
         simp only [Option.some.injEq, Prod.mk.injEq] at H
         obtain ⟨rfl, rfl⟩ := H
         have hnb48 := NB371_365.out
         have hnc48 := NB365_371.out
         have hnb49 := NB371_366.out
         have hnc49 := NB366_371.out
         obtain ⟨hcz50_0, hcz50_1, hcz50_2⟩ := cz3 BK371
         obtain ⟨hfz50_0, hfz50_1, hfz50_2⟩ := fz3 BK371
         have hnb51 := NB366_365.out
         have hnc51 := NB365_366.out
         obtain ⟨hcz52_0, hcz52_1⟩ := cz2 BK366
         obtain ⟨hfz52_0, hfz52_1⟩ := fz2 BK366
         go_wp2_with (first | ((with_reducible refine gate_callee (f := 24) rfl ?_); refine goesB (some 41) rfl rfl Try.func24 #[.slice A0 l0.length c0, .int .i64 x372001_1, .agg #[.int .i64 a2_0, .int .i64 a2_1]] rfl ?_; (with_reducible refine (stickfulref14_One.calls kj22 _ _ l0 x372001_1 a2_0 a2_1 t375 t376 t377 t378 _ ?side1 ?side2 A32.out).mono ?_); (case side1 => repeat (first | exact (Kd.C_below HR0.out HB.out) | (with_reducible refine Kd.C_alloc ?_ _) | (with_reducible refine Kd.C_drewN ?_ _) | (with_reducible refine Kd.C_drew ?_))); (case side2 => exact HC0.out); rintro e w53 ⟨rfl, hb⟩; refine ⟨_, rfl, ?_⟩; replace HO_10 := Aside0.mk (Kd.R_below (rx HO_10) hb); replace BK365 := bb BK365 hb; replace BK366 := bb BK366 hb; replace BK371 := bb BK371 hb; replace HB := bh HB hb; (try clear hb); (try clear hb2); (try clear hk); (try clear hi)) | ((with_reducible refine gate_dst (N := 11) rfl ?_); (try (refine gate_guard (by rfl) ?_; dsimp only)); refine box_event ?hg (N := 11) ?hd (cs := #[.int .i64 0, .int .i64 0, .bool false]) (t := 43) ?hr ?_; (case hd => rfl); (case hg => rfl); (case hr => first | (go_simp; done) | (go_simp; rfl)); intro gb379 hg w54 hbox hb; replace HO_10 := Aside0.mk (Kd.R_below (Kd.R_elderB (rx HO_10) gb379 (Nat.le_of_eq hg.symm)) hb); have BK379 := Aside0.mk (hbox); have GW379 := bge HB hg; have GE379 := bge HB hg; replace HB := bh HB hb; have NB365_379 := nbl BK365 hg; have NB379_365 := nbg BK365 hg; replace BK365 := bb BK365 hb; have NB366_379 := nbl BK366 hg; have NB379_366 := nbg BK366 hg; replace BK366 := bb BK366 hb; have NB371_379 := nbl BK371 hg; have NB379_371 := nbg BK371 hg; replace BK371 := bb BK371 hb; clear hb hbox hg; have hnb55 := NB379_365.out; have hnc55 := NB365_379.out; have hnb56 := NB379_366.out; have hnc56 := NB366_379.out; have hnb57 := NB379_371.out; have hnc57 := NB371_379.out; obtain ⟨hcz58_0, hcz58_1, hcz58_2⟩ := cz3 BK379; obtain ⟨hfz58_0, hfz58_1, hfz58_2⟩ := fz3 BK379))
         go_ret2
         exact ⟨_, by first | rfl | (simp [errW_none, errW_some] <;> rfl) | (simp [*, errW_none, errW_some] <;> rfl), by first | exact Kd.R_nil _ _ _ _ _ | exact Kd.N_nil _ _ _ _ _ | exact Kd.V_nil _ _ _ _ _ | exact Kd.Q_nil _ _ _ _ _ | exact Kd.S_nil _ _ _ _ _, by repeat (first | (with_reducible first | exact HB.out | apply below_alloc | apply pw_below_drewN | apply below_drew1 | refine below_set ?_ GE365.out | refine below_set ?_ GE366.out | refine below_set ?_ GE371.out | refine below_set ?_ GE379.out) | exact HB.out)⟩
       ·replace c31 := Bool.eq_false_iff.mpr c31
        subst c31
        have H1 : (some (x10_1, 0)) = some (r1, r2) := by rw [if_neg (show ¬ (false = true) by decide)] at H; exact H
        clear H
        have H := H1
        clear H1
        simp only [Option.some.injEq, Prod.mk.injEq] at H
        obtain ⟨rfl, rfl⟩ := H
        go_wp2
        go_ret2
        exact ⟨_, by first | rfl | (simp [errW_none, errW_some] <;> rfl) | (simp [*, errW_none, errW_some] <;> rfl), by (with_reducible repeat (first | apply Kd.R_alloc | apply Kd.R_drewN | apply Kd.R_drew)); exact Kd.R_mono HO_10.out (fun _ hk => trivial), by repeat (first | (with_reducible first | exact HB.out | apply below_alloc | apply pw_below_drewN | apply below_drew1 | refine below_set ?_ GE365.out | refine below_set ?_ GE366.out | refine below_set ?_ GE371.out) | exact HB.out)⟩
  ·rw [if_neg c10] at H
   have c10b0 : (t370 == 0) = false := beq_eq_false_iff_ne.mpr c10
   have c10b1 : (t370 != 0) = true := bne_iff_ne.mpr c10
   simp only [Option.some.injEq, Prod.mk.injEq] at H
   obtain ⟨rfl, rfl⟩ := H
   go_enter Try.func25, Try.ntmps25
   go_wp2_with (first | ((with_reducible refine gate_dst (N := 4) rfl ?_); (try (refine gate_guard (by rfl) ?_; dsimp only)); refine box_event ?hg (N := 4) ?hd (cs := #[.int .i64 a1_0, .int .i64 a1_1]) (t := 24) ?hr ?_; (case hd => rfl); (case hg => rfl); (case hr => first | (go_simp; done) | (go_simp; rfl)); intro gb365 hg w59 hbox hb; have BK365 := Aside0.mk (hbox); have GW365 := bge HB hg; have GE365 := bge HB hg; replace HB := bh HB hb; clear hb hbox hg) | ((with_reducible refine gate_dst (N := 5) rfl ?_); (try (refine gate_guard (by rfl) ?_; dsimp only)); refine box_event ?hg (N := 5) ?hd (cs := #[.int .i64 a2_0, .int .i64 a2_1]) (t := 24) ?hr ?_; (case hd => rfl); (case hg => rfl); (case hr => first | (go_simp; done) | (go_simp; rfl)); intro gb366 hg w60 hbox hb; have BK366 := Aside0.mk (hbox); have GW366 := bge HB hg; have GE366 := bge HB hg; replace HB := bh HB hb; have NB365_366 := nbl BK365 hg; have NB366_365 := nbg BK365 hg; replace BK365 := bb BK365 hb; clear hb hbox hg; have hnb61 := NB366_365.out; have hnc61 := NB365_366.out; obtain ⟨hcz62_0, hcz62_1⟩ := cz2 BK366; obtain ⟨hfz62_0, hfz62_1⟩ := fz2 BK366; obtain ⟨hcz63_0, hcz63_1⟩ := cz2 BK365; obtain ⟨hfz63_0, hfz63_1⟩ := fz2 BK365) | ((with_reducible refine gate_callee (f := 24) rfl ?_); refine goesB (some 19) rfl rfl Try.func24 #[.slice A0 l0.length c0, .int .i64 0, .agg #[.int .i64 a1_0, .int .i64 a1_1]] rfl ?_; (with_reducible refine (stickfulref14_One.calls k _ _ l0 0 a1_0 a1_1 t367 t368 t369 t370 _ ?side1 ?side2 A9.out).mono ?_); (case side1 => repeat (first | exact (Kd.C_below HR0.out HB.out) | (with_reducible refine Kd.C_alloc ?_ _) | (with_reducible refine Kd.C_drewN ?_ _) | (with_reducible refine Kd.C_drew ?_))); (case side2 => exact HC0.out); rintro e w64 ⟨rfl, hb⟩; refine ⟨_, rfl, ?_⟩; replace BK365 := bb BK365 hb; replace BK366 := bb BK366 hb; replace HB := bh HB hb; (try clear hb); (try clear hb2); (try clear hk); (try clear hi)) | ((with_reducible refine gate_dst (N := 8) rfl ?_); (try (refine gate_guard (by rfl) ?_; dsimp only)); refine box_event ?hg (N := 8) ?hd (cs := #[.int .i64 0, .int .i64 0, .bool false]) (t := 43) ?hr ?_; (case hd => rfl); (case hg => rfl); (case hr => first | (go_simp; done) | (go_simp; rfl)); intro gb371 hg w65 hbox hb; have BK371 := Aside0.mk (hbox); have GW371 := bge HB hg; have GE371 := bge HB hg; replace HB := bh HB hb; have NB365_371 := nbl BK365 hg; have NB371_365 := nbg BK365 hg; replace BK365 := bb BK365 hb; have NB366_371 := nbl BK366 hg; have NB371_366 := nbg BK366 hg; replace BK366 := bb BK366 hb; clear hb hbox hg; have hnb66 := NB371_365.out; have hnc66 := NB365_371.out; have hnb67 := NB371_366.out; have hnc67 := NB366_371.out; obtain ⟨hcz68_0, hcz68_1, hcz68_2⟩ := cz3 BK371; obtain ⟨hfz68_0, hfz68_1, hfz68_2⟩ := fz3 BK371))
   go_ret2
   exact ⟨_, by first | rfl | (simp [errW_none, errW_some] <;> rfl) | (simp [*, errW_none, errW_some] <;> rfl), by first | exact Kd.R_nil _ _ _ _ _ | exact Kd.N_nil _ _ _ _ _ | exact Kd.V_nil _ _ _ _ _ | exact Kd.Q_nil _ _ _ _ _ | exact Kd.S_nil _ _ _ _ _, by repeat (first | (with_reducible first | exact HB.out | apply below_alloc | apply pw_below_drewN | apply below_drew1 | refine below_set ?_ GE365.out | refine below_set ?_ GE366.out | refine below_set ?_ GE371.out) | exact HB.out)⟩

end Go.Proofs.Ytdmlnkgpjileaaa.HFirst
