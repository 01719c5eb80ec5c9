-- Written by this claim's own program over the kit's print.
import Derived.Test.YtdmlnkgpjileaaaM3
import Derived.Test.YtdmlnkgpjileaaaHFirstx21
import Derived.Test.YtdmlnkgpjileaaaHFirstx22
import Derived.Test.YtdmlnkgpjileaaaHFirstx28
import Derived.Test.YtdmlnkgpjileaaaM2
import Derived.StillTailTactics
import Derived.Laws.Externs
import Derived.BigFrameIn
import Derived.Lib.Hide
import Derived.Sort.LoopGhostIn
import Derived.BigQuiet
namespace Go.Proofs.Ytdmlnkgpjileaaa.HFirst
open Go.RowKit Go.Proofs.YtdmlnkgpjileaaaW.PrintWords Go.Proofs.YtdmlnkgpjileaaaW.PrintLast Go.Proofs.YtdmlnkgpjileaaaW.PrintMore Go.Proofs.Ytdmlnkgpjileaaa.Hand
attribute [local go_sem] max2_int min2_int max_two min_two max_three min_three max_four min_four   -- for this text's walks alone
set_option linter.unusedVariables false
set_option linter.unusedSimpArgs false

/-- Which operations have been taken: the bits of a number. -/
def stickfulref15_Lines.bits : Nat → Nat → List Bool
 | 0, _ => []
 | n + 1, m => Nat.beq (m % 2) 1 :: stickfulref15_Lines.bits n (m / 2)
def stickfulref15_Lines.bm (n m : Nat) : Array Bool := (stickfulref15_Lines.bits n m).toArray
/-! ### stickfulref15_Lines: function 10 -/
mutual
def stickfulref15_Lines.j0 : Nat → List (S46) → List (S46) → Bool → Int → Int → Int → Int → Option ((List (S43)) × Int)
 | 0, _, _, _, _, _, _, _ => none
 | k + 1, x0, x1, x30, x384000, x384001, x385000, x385001 => if x30 = true then (some (([] : List (S43)), 2)) else ((stickfulref14_One.f k x0 0 x384000 x384001).bind fun bt387 => (if bt387.2.2.2 = 0 then ((some (([(⟨bt387.1, bt387.2.1, bt387.2.2.1⟩ : S43)] : List (S43)) : List (S43))).bind fun y392 => (if bt387.2.2.1 = true then (stickfulref15_Lines.j1 k x1 y392 false x385000 x385001 bt387.1 bt387.2.1 bt387.2.2.1) else (stickfulref15_Lines.j1 k x1 y392 (bt387.2.1 == (x0.length : Int)) x385000 x385001 bt387.1 bt387.2.1 bt387.2.2.1))) else (some (([] : List (S43)), bt387.2.2.2))))
def stickfulref15_Lines.j1 : Nat → List (S46) → List (S43) → Bool → Int → Int → Int → Int → Bool → Option ((List (S43)) × Int)
 | 0, _, _, _, _, _, _, _, _ => none
 | k + 1, x1, x12, x51, x385000, x385001, x392000, x392001, x392002 => if x51 = true then (some (x12, 0)) else (if 0 ≤ x392001 then (if x392001 ≤ (x1.length : Int) then ((stickfulref14_Lines.f k (x1.drop (x392001 : Int).toNat) x385000 x385001 x385000 x385001).bind fun bt399 => (if bt399.2 = 0 then (stickfulref15_Lines.l0 k x12 bt399.1 0 x392000 x392001 x392002) else (some (([] : List (S43)), bt399.2)))) else (none)) else (none))
def stickfulref15_Lines.l0 : Nat → List (S43) → List (S43) → Int → Int → Int → Bool → Option ((List (S43)) × Int)
 | 0, _, _, _, _, _, _ => none
 | k + 1, x12, x13, x15, x392000, x392001, x392002 => if x15 < (x13.length : Int) then (if 0 ≤ x15 then (if x12.length < 5864062014805 then (stickfulref15_Lines.l0 k (x12 ++ [(⟨wrap64 (((rd_T43 x13 x15).f0) + x392001), wrap64 (((rd_T43 x13 x15).f1) + x392001), (rd_T43 x13 x15).f2⟩ : S43)]) x13 (wrap64 (x15 + 1)) x392000 x392001 x392002) else (none)) else (none)) else (some (x12, 0))
end
def stickfulref15_Lines.f (k : Nat) (l0 : List (S46)) (l1 : List (S46)) (a2_0 a2_1 a3_0 a3_1 : Int) : Option ((List (S43)) × Int) := (stickfulref15_Alike.f k l0 l1).bind fun t385 => (if t385 = true then ((stickfulref14_May.f k l1 0).bind fun t386 => (if t386 = true then (stickfulref15_Lines.j0 k l0 l1 (decide (a3_0 < 0)) a2_0 a2_1 a3_0 a3_1) else (stickfulref15_Lines.j0 k l0 l1 true a2_0 a2_1 a3_0 a3_1))) else (stickfulref15_Lines.j0 k l0 l1 true a2_0 a2_1 a3_0 a3_1))
theorem stickfulref15_Lines.mono_l : ∀ k, (∀ y0 y1 y2 y3 y4 y5 y6, LeO (stickfulref15_Lines.j0 k y0 y1 y2 y3 y4 y5 y6) (stickfulref15_Lines.j0 (k + 1) y0 y1 y2 y3 y4 y5 y6)) ∧ (∀ y0 y1 y2 y3 y4 y5 y6 y7, LeO (stickfulref15_Lines.j1 k y0 y1 y2 y3 y4 y5 y6 y7) (stickfulref15_Lines.j1 (k + 1) y0 y1 y2 y3 y4 y5 y6 y7)) ∧ (∀ y0 y1 y2 y3 y4 y5, LeO (stickfulref15_Lines.l0 k y0 y1 y2 y3 y4 y5) (stickfulref15_Lines.l0 (k + 1) y0 y1 y2 y3 y4 y5))
 | 0 => ⟨fun _ _ _ _ _ _ _ r h => by simp [stickfulref15_Lines.j0] at h, fun _ _ _ _ _ _ _ _ r h => by simp [stickfulref15_Lines.j1] at h, fun _ _ _ _ _ _ r h => by simp [stickfulref15_Lines.l0] at h⟩
 | k + 1 => by
  obtain ⟨ih0, ih1, ih2⟩ := stickfulref15_Lines.mono_l k
  refine ⟨?_, ?_, ?_⟩
  ·intro y0 y1 y2 y3 y4 y5 y6
   unfold stickfulref15_Lines.j0
   repeat' first
   | (with_reducible exact ih0 _ _ _ _ _ _ _)
   | (with_reducible exact ih1 _ _ _ _ _ _ _ _)
   | (with_reducible exact ih2 _ _ _ _ _ _)
   | (with_reducible exact stickfulref14_Lines.mono _ _ _ _ _ _)
   | (with_reducible exact stickfulref14_May.mono _ _ _)
   | (with_reducible exact stickfulref14_One.mono _ _ _ _ _)
   | (with_reducible exact stickfulref15_Alike.mono _ _ _)
   | (with_reducible exact LeO.refl _)
   | (with_reducible exact LeO.none _)
   | (with_reducible refine LeO.ite ?_ ?_)
   | (with_reducible refine LeO.bind ?_ (fun _ => ?_))
   | exact ih0 _ _ _ _ _ _ _
   | exact ih1 _ _ _ _ _ _ _ _
   | exact ih2 _ _ _ _ _ _
   | exact stickfulref14_Lines.mono _ _ _ _ _ _
   | exact stickfulref14_May.mono _ _ _
   | exact stickfulref14_One.mono _ _ _ _ _
   | exact stickfulref15_Alike.mono _ _ _
   | exact LeO.none _
   | refine LeO.ite ?_ ?_
   | refine LeO.bind ?_ (fun _ => ?_)
  ·intro y0 y1 y2 y3 y4 y5 y6 y7
   unfold stickfulref15_Lines.j1
   repeat' first
   | (with_reducible exact ih0 _ _ _ _ _ _ _)
   | (with_reducible exact ih1 _ _ _ _ _ _ _ _)
   | (with_reducible exact ih2 _ _ _ _ _ _)
   | (with_reducible exact stickfulref14_Lines.mono _ _ _ _ _ _)
   | (with_reducible exact stickfulref14_May.mono _ _ _)
   | (with_reducible exact stickfulref14_One.mono _ _ _ _ _)
   | (with_reducible exact stickfulref15_Alike.mono _ _ _)
   | (with_reducible exact LeO.refl _)
   | (with_reducible exact LeO.none _)
   | (with_reducible refine LeO.ite ?_ ?_)
   | (with_reducible refine LeO.bind ?_ (fun _ => ?_))
   | exact ih0 _ _ _ _ _ _ _
   | exact ih1 _ _ _ _ _ _ _ _
   | exact ih2 _ _ _ _ _ _
   | exact stickfulref14_Lines.mono _ _ _ _ _ _
   | exact stickfulref14_May.mono _ _ _
   | exact stickfulref14_One.mono _ _ _ _ _
   | exact stickfulref15_Alike.mono _ _ _
   | exact LeO.none _
   | refine LeO.ite ?_ ?_
   | refine LeO.bind ?_ (fun _ => ?_)
  ·intro y0 y1 y2 y3 y4 y5
   unfold stickfulref15_Lines.l0
   repeat' first
   | (with_reducible exact ih0 _ _ _ _ _ _ _)
   | (with_reducible exact ih1 _ _ _ _ _ _ _ _)
   | (with_reducible exact ih2 _ _ _ _ _ _)
   | (with_reducible exact stickfulref14_Lines.mono _ _ _ _ _ _)
   | (with_reducible exact stickfulref14_May.mono _ _ _)
   | (with_reducible exact stickfulref14_One.mono _ _ _ _ _)
   | (with_reducible exact stickfulref15_Alike.mono _ _ _)
   | (with_reducible exact LeO.refl _)
   | (with_reducible exact LeO.none _)
   | (with_reducible refine LeO.ite ?_ ?_)
   | (with_reducible refine LeO.bind ?_ (fun _ => ?_))
   | exact ih0 _ _ _ _ _ _ _
   | exact ih1 _ _ _ _ _ _ _ _
   | exact ih2 _ _ _ _ _ _
   | exact stickfulref14_Lines.mono _ _ _ _ _ _
   | exact stickfulref14_May.mono _ _ _
   | exact stickfulref14_One.mono _ _ _ _ _
   | exact stickfulref15_Alike.mono _ _ _
   | exact LeO.none _
   | refine LeO.ite ?_ ?_
   | refine LeO.bind ?_ (fun _ => ?_)
theorem stickfulref15_Lines.mono : ∀ a0 a1 a2 a3 a4 a5 k, LeO (stickfulref15_Lines.f k a0 a1 a2 a3 a4 a5) (stickfulref15_Lines.f (k + 1) a0 a1 a2 a3 a4 a5) := by
 intro a0 a1 a2 a3 a4 a5 k
 obtain ⟨ih0, ih1, ih2⟩ := stickfulref15_Lines.mono_l k
 unfold stickfulref15_Lines.f
 repeat' first
   | (with_reducible exact ih0 _ _ _ _ _ _ _)
   | (with_reducible exact ih1 _ _ _ _ _ _ _ _)
   | (with_reducible exact ih2 _ _ _ _ _ _)
   | (with_reducible exact stickfulref14_Lines.mono _ _ _ _ _ _)
   | (with_reducible exact stickfulref14_May.mono _ _ _)
   | (with_reducible exact stickfulref14_One.mono _ _ _ _ _)
   | (with_reducible exact stickfulref15_Alike.mono _ _ _)
   | (with_reducible exact LeO.refl _)
   | (with_reducible exact LeO.none _)
   | (with_reducible refine LeO.ite ?_ ?_)
   | (with_reducible refine LeO.bind ?_ (fun _ => ?_))
   | exact ih0 _ _ _ _ _ _ _
   | exact ih1 _ _ _ _ _ _ _ _
   | exact ih2 _ _ _ _ _ _
   | exact stickfulref14_Lines.mono _ _ _ _ _ _
   | exact stickfulref14_May.mono _ _ _
   | exact stickfulref14_One.mono _ _ _ _ _
   | exact stickfulref15_Alike.mono _ _ _
   | exact LeO.none _
   | refine LeO.ite ?_ ?_
   | refine LeO.bind ?_ (fun _ => ?_)
def stickfulref15_Lines.T9 : Bool × List (List Nat × List Nat) := (true, [([], []), ([], []), ([1], [1]), ([0, 2], [0, 2]), ([], []), ([], []), ([3, 4, 5], [3, 4, 5]), ([6], [6]), ([7], [7]), ([7], [7]), ([8, 6, 0, 1, 2, 3, 4, 5, 6, 7, 8], [8]), ([9, 10, 0, 1, 2, 3, 4, 5, 6, 7, 8, 9, 10], [9])])
def stickfulref15_Lines.B9 : List Nat := [0, 0, 2, 7, 0, 0, 63, 127, 255, 255, 511, 2047]
theorem stickfulref15_Lines.tab9 : rtab .any (opsOf Try.f10 9) = stickfulref15_Lines.T9 := by kernel_rfl
theorem stickfulref15_Lines.bits9 : waitsOk stickfulref15_Lines.T9.2 stickfulref15_Lines.B9 = true := by kernel_rfl
set_option maxHeartbeats 8000000 in
set_option maxRecDepth 100000 in
theorem stickfulref15_Lines.calls (k : Nat) (A0 : Option Addr) (c0 : Nat) (l0 : List (S46)) (A1 : Option Addr) (c1 : Nat) (l1 : List (S46)) (a2_0 a2_1 a3_0 a3_1 : Int) (r1 : List (S43)) (r2 : Int) (w : World) (hr0 : Kd.C k46 w A0 l0.length l0) (hc0 : l0.length ≤ c0) (hr1 : Kd.C k46 w A1 l1.length l1) (hc1 : l1.length ≤ c1) (h : stickfulref15_Lines.f k l0 l1 a2_0 a2_1 a3_0 a3_1 = some (r1, r2)) :
  Calls Try.prog 10 #[.slice A0 l0.length c0, .slice A1 l1.length c1, .agg #[.int .i64 a2_0, .int .i64 a2_1], .agg #[.int .i64 a3_0, .int .i64 a3_1]] w fun e w' => ∃ v0_ : Value, e = .returned (.tuple #[v0_, .int .i64 r2]) ∧ Kd.R k43 43 w' w.heap.size (fun _ => True) v0_ r1 ∧ Below w.heap.size w w' := by
 have hu24 := Try.underlying24
 have hu43 := Try.underlying43
 have HR0 := Aside0.mk hr0
 have HC0 := Aside0.mk hc0
 clear hr0 hc0
 have HR1 := Aside0.mk hr1
 have HC1 := Aside0.mk hc1
 clear hr1 hc1
 have HB := Aside0.mk (Below.refl w.heap.size w)
 have H : ((stickfulref15_Alike.f k l0 l1).bind fun t385 => (if t385 = true then ((stickfulref14_May.f k l1 0).bind fun t386 => (if t386 = true then (stickfulref15_Lines.j0 k l0 l1 (decide (a3_0 < 0)) a2_0 a2_1 a3_0 a3_1) else (stickfulref15_Lines.j0 k l0 l1 true a2_0 a2_1 a3_0 a3_1))) else (stickfulref15_Lines.j0 k l0 l1 true a2_0 a2_1 a3_0 a3_1))) = some (r1, r2) := h
 clear h
 have HC5 := Aside0.mk H
 clear H
 go_enter Try.func10, Try.ntmps10
 go_upto_region 1 with (first | ((with_reducible refine gate_dst (N := 6) rfl ?_); (try (refine gate_guard (by rfl) ?_; dsimp only)); refine box_event ?hg (N := 6) ?hd (cs := #[.int .i64 a2_0, .int .i64 a2_1]) (t := 24) ?hr ?_; (case hd => rfl); (case hg => rfl); (case hr => first | (go_simp; done) | (go_simp; rfl)); intro gb383 hg w6 hbox hb; have BK383 := Aside0.mk (hbox); have GW383 := bge HB hg; have GE383 := bge HB hg; replace HB := bh HB hb; clear hb hbox hg) | ((with_reducible refine gate_dst (N := 7) rfl ?_); (try (refine gate_guard (by rfl) ?_; dsimp only)); refine box_event ?hg (N := 7) ?hd (cs := #[.int .i64 a3_0, .int .i64 a3_1]) (t := 24) ?hr ?_; (case hd => rfl); (case hg => rfl); (case hr => first | (go_simp; done) | (go_simp; rfl)); intro gb384 hg w7 hbox hb; have BK384 := Aside0.mk (hbox); have GW384 := bge HB hg; have GE384 := bge HB hg; replace HB := bh HB hb; have NB383_384 := nbl BK383 hg; have NB384_383 := nbg BK383 hg; replace BK383 := bb BK383 hb; clear hb hbox hg))
 (try simp only [Act.put, List.setIfInBounds_toArray, List.set_cons_zero, List.set_cons_succ])
 go_cut [30] (fun v30 wc => ∃ (kq : Nat) (x30_4 : Bool), v30 = .bool x30_4 ∧ Aside0 (stickfulref15_Lines.j0 kq l0 l1 x30_4 a2_0 a2_1 a3_0 a3_1 = some (r1, r2)) ∧ Aside0 (kq ≤ k) ∧ Aside0 (wc.heap[gb383]? = some (.cells #[.int .i64 a2_0, .int .i64 a2_1] 24 (0, 0))) ∧ Aside0 (wc.heap[gb384]? = some (.cells #[.int .i64 a3_0, .int .i64 a3_1] 24 (0, 0))) ∧ Aside0 (Below w.heap.size w wc))
 case first =>
  have H := HC5.out
  clear HC5
  replace H := Option.bind_eq_some_iff.mp H
  obtain ⟨t385, A80, H⟩ := H
  replace H : (if t385 = true then ((stickfulref14_May.f k l1 0).bind fun t386 => (if t386 = true then (stickfulref15_Lines.j0 k l0 l1 (decide (a3_0 < 0)) a2_0 a2_1 a3_0 a3_1) else (stickfulref15_Lines.j0 k l0 l1 true a2_0 a2_1 a3_0 a3_1))) else (stickfulref15_Lines.j0 k l0 l1 true a2_0 a2_1 a3_0 a3_1)) = some (r1, r2) := H
  have A8 := Aside0.mk A80
  clear A80
  by_cases c9 : t385 = true
  ·subst c9
   have H1 : ((stickfulref14_May.f k l1 0).bind fun t386 => (if t386 = true then (stickfulref15_Lines.j0 k l0 l1 (decide (a3_0 < 0)) a2_0 a2_1 a3_0 a3_1) else (stickfulref15_Lines.j0 k l0 l1 true a2_0 a2_1 a3_0 a3_1))) = some (r1, r2) := by rw [if_pos rfl] at H; exact H
   clear H
   have H := H1
   clear H1
   replace H := Option.bind_eq_some_iff.mp H
   obtain ⟨t386, A100, H⟩ := H
   replace H : (if t386 = true then (stickfulref15_Lines.j0 k l0 l1 (decide (a3_0 < 0)) a2_0 a2_1 a3_0 a3_1) else (stickfulref15_Lines.j0 k l0 l1 true a2_0 a2_1 a3_0 a3_1)) = some (r1, r2) := H
   have A10 := Aside0.mk A100
   clear A100
   by_cases c11 : t386 = true
   ·subst c11
    have H1 : (stickfulref15_Lines.j0 k l0 l1 (decide (a3_0 < 0)) a2_0 a2_1 a3_0 a3_1) = some (r1, r2) := by rw [if_pos rfl] at H; exact H
    clear H
    have H := H1
    clear H1
    have H' := Aside0.mk H
    clear H
    go_wp2_with (first | ((with_reducible refine gate_callee (f := 13) rfl ?_); refine goesB (some 19) rfl rfl Try.func13 #[.slice A0 l0.length c0, .slice A1 l1.length c1] rfl ?_; (with_reducible refine (stickfulref15_Alike.calls k _ _ l0 _ _ l1 true _ ?side1 ?side2 ?side3 ?side4 A8.out).mono ?_); (case side1 => repeat (first | exact (Kd.C_below HR0.out HB.out) | (with_reducible refine Kd.C_alloc ?_ _) | (with_reducible refine Kd.C_drewN ?_ _) | (with_reducible refine Kd.C_drew ?_))); (case side2 => exact HC0.out); (case side3 => repeat (first | exact (Kd.C_below HR1.out HB.out) | (with_reducible refine Kd.C_alloc ?_ _) | (with_reducible refine Kd.C_drewN ?_ _) | (with_reducible refine Kd.C_drew ?_))); (case side4 => exact HC1.out); rintro e w' ⟨rfl, ⟨nd, rfl⟩⟩; refine ⟨_, rfl, ?_⟩) | (go_at_call 23; (with_reducible refine (stickfulref14_May.calls k _ _ l1 0 true _ ?side1 ?side2 A10.out).mono ?_); (case side1 => repeat (first | exact (Kd.C_below HR1.out (bw HB)) | (with_reducible refine Kd.C_alloc ?_ _) | (with_reducible refine Kd.C_drewN ?_ _) | (with_reducible refine Kd.C_drew ?_))); (case side2 => exact HC1.out); rintro e w' ⟨rfl, ⟨nd, rfl⟩⟩; have hnb12 := NB384_383.out; have hnc12 := NB383_384.out; obtain ⟨hcz13_0, hcz13_1⟩ := cz2 BK384; obtain ⟨hfz13_0, hfz13_1⟩ := fz2 BK384))
    go_meet
    case rel => exact ⟨_, (decide (a3_0 < 0)), (by first | rfl | (simp; done) | (simp [*]; done)), H', ⟨by first | omega | exact Nat.le_refl _⟩, ⟨by (with_reducible repeat (first | refine blk_drewN ?_ _ | refine blk_drew ?_ | refine blk_alloc ?_ _)); exact BK383.out⟩, ⟨by (with_reducible repeat (first | refine blk_drewN ?_ _ | refine blk_drew ?_ | refine blk_alloc ?_ _)); exact BK384.out⟩, ⟨by repeat (first | (with_reducible first | exact HB.out | apply below_alloc | apply pw_below_drewN | apply below_drew1 | refine below_set ?_ GE383.out | refine below_set ?_ GE384.out) | exact HB.out)⟩⟩
   ·replace c11 := Bool.eq_false_iff.mpr c11
    subst c11
    have H1 : (stickfulref15_Lines.j0 k l0 l1 true a2_0 a2_1 a3_0 a3_1) = some (r1, r2) := by rw [if_neg (show ¬ (false = true) by decide)] at H; exact H
    clear H
    have H := H1
    clear H1
    have H' := Aside0.mk H
    clear H
    go_wp2_with (first | ((with_reducible refine gate_callee (f := 13) rfl ?_); refine goesB (some 19) rfl rfl Try.func13 #[.slice A0 l0.length c0, .slice A1 l1.length c1] rfl ?_; (with_reducible refine (stickfulref15_Alike.calls k _ _ l0 _ _ l1 true _ ?side1 ?side2 ?side3 ?side4 A8.out).mono ?_); (case side1 => repeat (first | exact (Kd.C_below HR0.out HB.out) | (with_reducible refine Kd.C_alloc ?_ _) | (with_reducible refine Kd.C_drewN ?_ _) | (with_reducible refine Kd.C_drew ?_))); (case side2 => exact HC0.out); (case side3 => repeat (first | exact (Kd.C_below HR1.out HB.out) | (with_reducible refine Kd.C_alloc ?_ _) | (with_reducible refine Kd.C_drewN ?_ _) | (with_reducible refine Kd.C_drew ?_))); (case side4 => exact HC1.out); rintro e w' ⟨rfl, ⟨nd, rfl⟩⟩; refine ⟨_, rfl, ?_⟩) | (go_at_call 23; (with_reducible refine (stickfulref14_May.calls k _ _ l1 0 false _ ?side1 ?side2 A10.out).mono ?_); (case side1 => repeat (first | exact (Kd.C_below HR1.out (bw HB)) | (with_reducible refine Kd.C_alloc ?_ _) | (with_reducible refine Kd.C_drewN ?_ _) | (with_reducible refine Kd.C_drew ?_))); (case side2 => exact HC1.out); rintro e w' ⟨rfl, ⟨nd, rfl⟩⟩))
    go_meet
    case rel => exact ⟨_, (true), (by first | rfl | (simp; done) | (simp [*]; done)), H', ⟨by first | omega | exact Nat.le_refl _⟩, ⟨by (with_reducible repeat (first | refine blk_drewN ?_ _ | refine blk_drew ?_ | refine blk_alloc ?_ _)); exact BK383.out⟩, ⟨by (with_reducible repeat (first | refine blk_drewN ?_ _ | refine blk_drew ?_ | refine blk_alloc ?_ _)); exact BK384.out⟩, ⟨by repeat (first | (with_reducible first | exact HB.out | apply below_alloc | apply pw_below_drewN | apply below_drew1 | refine below_set ?_ GE383.out | refine below_set ?_ GE384.out) | exact HB.out)⟩⟩
  ·replace c9 := Bool.eq_false_iff.mpr c9
   subst c9
   have H1 : (stickfulref15_Lines.j0 k l0 l1 true a2_0 a2_1 a3_0 a3_1) = some (r1, r2) := by rw [if_neg (show ¬ (false = true) by decide)] at H; exact H
   clear H
   have H := H1
   clear H1
   have H' := Aside0.mk H
   clear H
   go_wp2_with (first | ((with_reducible refine gate_callee (f := 13) rfl ?_); refine goesB (some 19) rfl rfl Try.func13 #[.slice A0 l0.length c0, .slice A1 l1.length c1] rfl ?_; (with_reducible refine (stickfulref15_Alike.calls k _ _ l0 _ _ l1 false _ ?side1 ?side2 ?side3 ?side4 A8.out).mono ?_); (case side1 => repeat (first | exact (Kd.C_below HR0.out HB.out) | (with_reducible refine Kd.C_alloc ?_ _) | (with_reducible refine Kd.C_drewN ?_ _) | (with_reducible refine Kd.C_drew ?_))); (case side2 => exact HC0.out); (case side3 => repeat (first | exact (Kd.C_below HR1.out HB.out) | (with_reducible refine Kd.C_alloc ?_ _) | (with_reducible refine Kd.C_drewN ?_ _) | (with_reducible refine Kd.C_drew ?_))); (case side4 => exact HC1.out); rintro e w' ⟨rfl, ⟨nd, rfl⟩⟩; refine ⟨_, rfl, ?_⟩))
   go_meet
   case rel => exact ⟨_, (true), (by first | rfl | (simp; done) | (simp [*]; done)), H', ⟨by first | omega | exact Nat.le_refl _⟩, ⟨by (with_reducible repeat (first | refine blk_drewN ?_ _ | refine blk_drew ?_ | refine blk_alloc ?_ _)); exact BK383.out⟩, ⟨by (with_reducible repeat (first | refine blk_drewN ?_ _ | refine blk_drew ?_ | refine blk_alloc ?_ _)); exact BK384.out⟩, ⟨by repeat (first | (with_reducible first | exact HB.out | apply below_alloc | apply pw_below_drewN | apply below_drew1 | refine below_set ?_ GE383.out | refine below_set ?_ GE384.out) | exact HB.out)⟩⟩
 case rest =>
  clear HC5
  try clear c1
  try clear p2
  try clear c9
  try clear c10
  try clear c11
  try clear c12
  try clear c13
  try clear hcz13_0
  try clear hcz13_1
  try clear hfz13_0
  try clear hfz13_1
  obtain ⟨kq, x30_4, rfl, HA, HJ4, BK383, BK384, HB⟩ := hcut
  cases kq with
  | zero => exact absurd HA.out (by simp [stickfulref15_Lines.j0])
  | succ kj4 =>
   have H := HA.out
   clear HA
   simp only [stickfulref15_Lines.j0] at H
   by_cases c14 : x30_4 = true
   ·subst c14
    have H1 : (some (([] : List (S43)), 2)) = some (r1, r2) := by rw [if_pos rfl] at H; exact H
    clear H
    have H := H1
    clear H1
    simp only [Option.some.injEq, Prod.mk.injEq] at H
    obtain ⟨rfl, rfl⟩ := H
    go_wp2
    go_ret2
    exact ⟨_, by first | rfl | (simp [errW_none, errW_some] <;> rfl) | (simp [*, errW_none, errW_some] <;> rfl), by first | exact Kd.R_nil _ _ _ _ _ | exact Kd.N_nil _ _ _ _ _ | exact Kd.V_nil _ _ _ _ _ | exact Kd.Q_nil _ _ _ _ _ | exact Kd.S_nil _ _ _ _ _, by repeat (first | (with_reducible first | exact HB.out | apply below_alloc | apply pw_below_drewN | apply below_drew1 | refine below_set ?_ GE383.out | refine below_set ?_ GE384.out) | exact HB.out)⟩
   ·replace c14 := Bool.eq_false_iff.mpr c14
    subst c14
    have H1 : ((stickfulref14_One.f kj4 l0 0 a2_0 a2_1).bind fun bt387 => (if bt387.2.2.2 = 0 then ((some (([(⟨bt387.1, bt387.2.1, bt387.2.2.1⟩ : S43)] : List (S43)) : List (S43))).bind fun y392 => (if bt387.2.2.1 = true then (stickfulref15_Lines.j1 kj4 l1 y392 false a3_0 a3_1 bt387.1 bt387.2.1 bt387.2.2.1) else (stickfulref15_Lines.j1 kj4 l1 y392 (bt387.2.1 == (l0.length : Int)) a3_0 a3_1 bt387.1 bt387.2.1 bt387.2.2.1))) else (some (([] : List (S43)), bt387.2.2.2)))) = some (r1, r2) := by rw [if_neg (show ¬ (false = true) by decide)] at H; exact H
    clear H
    have H := H1
    clear H1
    replace H := Option.bind_eq_some_iff.mp H
    obtain ⟨⟨t387, t388, t389, t390⟩, A150, H⟩ := H
    replace H : (if t390 = 0 then ((some (([(⟨t387, t388, t389⟩ : S43)] : List (S43)) : List (S43))).bind fun y392 => (if t389 = true then (stickfulref15_Lines.j1 kj4 l1 y392 false a3_0 a3_1 t387 t388 t389) else (stickfulref15_Lines.j1 kj4 l1 y392 (t388 == (l0.length : Int)) a3_0 a3_1 t387 t388 t389))) else (some (([] : List (S43)), t390))) = some (r1, r2) := H
    have A15 := Aside0.mk A150
    clear A150
    by_cases c16 : t390 = 0
    ·rw [if_pos c16] at H
     have c16b0 : (t390 == 0) = true := beq_iff_eq.mpr c16
     have c16b1 : (t390 != 0) = false := bne_eq_false_iff_eq.mpr c16
     clear c16
     obtain ⟨y392, hy392⟩ : ∃ y_ : List (S43), y_ = (([(⟨t387, t388, t389⟩ : S43)] : List (S43))) := ⟨_, rfl⟩
     replace H : (if t389 = true then (stickfulref15_Lines.j1 kj4 l1 y392 false a3_0 a3_1 t387 t388 t389) else (stickfulref15_Lines.j1 kj4 l1 y392 (t388 == (l0.length : Int)) a3_0 a3_1 t387 t388 t389)) = some (r1, r2) := by first | (rw [hy392]; with_reducible exact H) | (have H2_ := (Option.bind_some _ _).symm.trans H; rw [hy392]; with_reducible exact H2_) | (have H2_ := (Option.bind_some _ _).symm.trans H; with_reducible exact H2_) | with_reducible exact H | (rw [hy392]; exact H) | exact H
     have Ny392 := Aside0.mk hy392
     clear hy392
     have HC17 := Aside0.mk H
     clear H
     have hnb18 := NB383_384.out
     have hnc18 := NB384_383.out
     obtain ⟨hcz19_0, hcz19_1⟩ := cz2 BK383
     obtain ⟨hfz19_0, hfz19_1⟩ := fz2 BK383
     go_upto_region 7 with (first | ((with_reducible refine gate_callee (f := 24) rfl ?_); refine goesB (some 34) rfl rfl Try.func24 #[.slice A0 l0.length c0, .int .i64 0, .agg #[.int .i64 a2_0, .int .i64 a2_1]] rfl ?_; (with_reducible refine (stickfulref14_One.calls kj4 _ _ l0 0 a2_0 a2_1 t387 t388 t389 t390 _ ?side1 ?side2 A15.out).mono ?_); (case side1 => repeat (first | exact (Kd.C_below HR0.out HB.out) | (with_reducible refine Kd.C_alloc ?_ _) | (with_reducible refine Kd.C_drewN ?_ _) | (with_reducible refine Kd.C_drew ?_))); (case side2 => exact HC0.out); rintro e w20 ⟨rfl, hb⟩; refine ⟨_, rfl, ?_⟩; replace BK383 := bb BK383 hb; replace BK384 := bb BK384 hb; replace HB := bh HB hb; (try clear hb); (try clear hb2); (try clear hk); (try clear hi)) | ((with_reducible refine gate_dst (N := 10) rfl ?_); (try (refine gate_guard (by rfl) ?_; dsimp only)); refine box_event ?hg (N := 10) ?hd (cs := #[.int .i64 0, .int .i64 0, .bool false]) (t := 43) ?hr ?_; (case hd => rfl); (case hg => rfl); (case hr => first | (go_simp; done) | (go_simp; rfl)); intro gb391 hg w21 hbox hb; have BK391 := Aside0.mk (hbox); have GW391 := bge HB hg; have GE391 := bge HB hg; replace HB := bh HB hb; have NB383_391 := nbl BK383 hg; have NB391_383 := nbg BK383 hg; replace BK383 := bb BK383 hb; have NB384_391 := nbl BK384 hg; have NB391_384 := nbg BK384 hg; replace BK384 := bb BK384 hb; clear hb hbox hg; have hnb22 := NB391_383.out; have hnc22 := NB383_391.out; have hnb23 := NB391_384.out; have hnc23 := NB384_391.out; obtain ⟨hcz24_0, hcz24_1, hcz24_2⟩ := cz3 BK391; obtain ⟨hfz24_0, hfz24_1, hfz24_2⟩ := fz3 BK391) | ((with_reducible refine gate_dst (N := 41) rfl ?_); (try (refine gate_guard (by rfl) ?_; dsimp only)); refine Kd.R_lit k43 _ 43 ?hg (N := 41) ?hd (xs := ([(⟨t387, t388, t389⟩ : S43)] : List (S43))) (inner := [.int .i64 t387, .int .i64 t388, .bool t389]) (ok := fun _ => True) (okp := fun _ => True) ?hr ?hp (fun _ hk => hk) trivial (Below.refl _ _) (Nat.le_refl _) (by simp) ?_; (case hd => rfl); (case hg => rfl); (case hr => first | (go_simp; done) | (go_simp; rfl)); (case hp => exact (Reps.c3 (show Kd.M k43 _ _ _ (⟨t387, t388, t389⟩ : S43) [.int .i64 t387, .int .i64 t388, .bool t389] from (k43_mkM _ _ _ (⟨t387, t388, t389⟩ : S43) )) (Reps.none _ _))); intro v393 w25 ho26 hb hg_ hnew_; clear hg_ hnew_; (first | rw [← Ny392.out] at ho26 | (simp only [Int.reduceToNat] at ho26; rw [← Ny392.out] at ho26)); have HO394 := Aside0.mk (Kd.R_lower (Kd.R_newB ho26 (o := .cells #[.int .i64 t387, .int .i64 t388, .bool t389] 43 (0, 0)) (bp BK391)) (below_size (bw HB))); replace BK383 := bb BK383 hb; replace BK384 := bb BK384 hb; replace BK391 := Aside0.mk (blk_below (o := .cells #[.int .i64 t387, .int .i64 t388, .bool t389] 43 (0, 0)) (bp BK391) hb); replace HB := bh HB hb; clear hb ho26))
     (try simp only [Act.put, List.setIfInBounds_toArray, List.set_cons_zero, List.set_cons_succ])
     go_cut [51] (fun v51 wc => ∃ (kq : Nat) (x51_16 : Bool), v51 = .bool x51_16 ∧ Aside0 (stickfulref15_Lines.j1 kq l1 y392 x51_16 a3_0 a3_1 t387 t388 t389 = some (r1, r2)) ∧ Aside0 (kq ≤ kj4) ∧ Aside0 (Kd.R k43 43 wc w.heap.size (fun k_ => k_ ≠ gb391) v393 y392) ∧ Aside0 (wc.heap[gb383]? = some (.cells #[.int .i64 a2_0, .int .i64 a2_1] 24 (0, 0))) ∧ Aside0 (wc.heap[gb384]? = some (.cells #[.int .i64 a3_0, .int .i64 a3_1] 24 (0, 0))) ∧ Aside0 (wc.heap[gb391]? = some (.cells #[.int .i64 t387, .int .i64 t388, .bool t389] 43 (0, 0))) ∧ Aside0 (Below w.heap.size w wc))
     case first =>
      have H := HC17.out
      clear HC17
      by_cases c27 : t389 = true
      ·subst c27
       have H1 : (stickfulref15_Lines.j1 kj4 l1 y392 false a3_0 a3_1 t387 t388 true) = some (r1, r2) := by rw [if_pos rfl] at H; exact H
       clear H
       have H := H1
       clear H1
       have H' := Aside0.mk H
       clear H
       have hnb28 := NB391_383.out
       have hnc28 := NB383_391.out
       have hnb29 := NB391_384.out
       have hnc29 := NB384_391.out
       obtain ⟨hcz30_0, hcz30_1, hcz30_2⟩ := cz3 BK391
       obtain ⟨hfz30_0, hfz30_1, hfz30_2⟩ := fz3 BK391
       go_wp2
       go_meet
       case rel => exact ⟨_, (false), (by first | rfl | (simp; done) | (simp [*]; done)), H', ⟨by have := HJ4.out; first | omega | exact Nat.le_refl _⟩, ⟨by (with_reducible repeat (first | apply Kd.R_alloc | apply Kd.R_drewN | apply Kd.R_drew)); exact Kd.R_mono HO394.out (fun _ hk => hk.2)⟩, ⟨by (with_reducible repeat (first | refine blk_drewN ?_ _ | refine blk_drew ?_ | refine blk_alloc ?_ _)); exact BK383.out⟩, ⟨by (with_reducible repeat (first | refine blk_drewN ?_ _ | refine blk_drew ?_ | refine blk_alloc ?_ _)); exact BK384.out⟩, ⟨by (with_reducible repeat (first | refine blk_drewN ?_ _ | refine blk_drew ?_ | refine blk_alloc ?_ _)); exact BK391.out⟩, ⟨by repeat (first | (with_reducible first | exact HB.out | apply below_alloc | apply pw_below_drewN | apply below_drew1 | refine below_set ?_ GE383.out | refine below_set ?_ GE384.out | refine below_set ?_ GE391.out) | exact HB.out)⟩⟩
      ·replace c27 := Bool.eq_false_iff.mpr c27
       subst c27
       have H1 : (stickfulref15_Lines.j1 kj4 l1 y392 (t388 == (l0.length : Int)) a3_0 a3_1 t387 t388 false) = some (r1, r2) := by rw [if_neg (show ¬ (false = true) by decide)] at H; exact H
       clear H
       have H := H1
       clear H1
       have H' := Aside0.mk H
       clear H
       have hnb31 := NB391_383.out
       have hnc31 := NB383_391.out
       have hnb32 := NB391_384.out
       have hnc32 := NB384_391.out
       obtain ⟨hcz33_0, hcz33_1, hcz33_2⟩ := cz3 BK391
       obtain ⟨hfz33_0, hfz33_1, hfz33_2⟩ := fz3 BK391
       go_wp2
       go_meet
       case rel => exact ⟨_, ((t388 == (l0.length : Int))), (by first | rfl | (simp; done) | (simp [*]; done)), H', ⟨by have := HJ4.out; first | omega | exact Nat.le_refl _⟩, ⟨by (with_reducible repeat (first | apply Kd.R_alloc | apply Kd.R_drewN | apply Kd.R_drew)); exact Kd.R_mono HO394.out (fun _ hk => hk.2)⟩, ⟨by (with_reducible repeat (first | refine blk_drewN ?_ _ | refine blk_drew ?_ | refine blk_alloc ?_ _)); exact BK383.out⟩, ⟨by (with_reducible repeat (first | refine blk_drewN ?_ _ | refine blk_drew ?_ | refine blk_alloc ?_ _)); exact BK384.out⟩, ⟨by (with_reducible repeat (first | refine blk_drewN ?_ _ | refine blk_drew ?_ | refine blk_alloc ?_ _)); exact BK391.out⟩, ⟨by repeat (first | (with_reducible first | exact HB.out | apply below_alloc | apply pw_below_drewN | apply below_drew1 | refine below_set ?_ GE383.out | refine below_set ?_ GE384.out | refine below_set ?_ GE391.out) | exact HB.out)⟩⟩
     case rest =>
      clear HC17
      try clear c1
      try clear c2
      try clear p2
      try clear c3
      try clear c9
      try clear c10
      try clear c11
      try clear c12
      try clear c13
      try clear c14
      try clear c16
      try clear c16b0
      try clear c16b1
      try clear c18
      try clear c22
      try clear c23
      try clear c24
      try clear c27
      try clear c28
      try clear c29
      try clear c31
      try clear c32
      try clear hcz13_0
      try clear hcz13_1
      try clear hcz19_0
      try clear hcz19_1
      try clear hcz24_0
      try clear hcz24_1
      try clear hcz24_2
      try clear hcz30_0
      try clear hcz30_1
      try clear hcz30_2
      try clear hcz33_0
      try clear hcz33_1
      try clear hcz33_2
      try clear hfz13_0
      try clear hfz13_1
      try clear hfz19_0
      try clear hfz19_1
      try clear hfz24_0
      try clear hfz24_1
      try clear hfz24_2
      try clear hfz30_0
      try clear hfz30_1
      try clear hfz30_2
      try clear hfz33_0
      try clear hfz33_1
      try clear hfz33_2
      try clear p2
      obtain ⟨kq, x51_16, rfl, HA, HJ16, HO_12, BK383, BK384, BK391, HB⟩ := hcut
      cases kq with
      | zero => exact absurd HA.out (by simp [stickfulref15_Lines.j1])
      | succ kj16 =>
       have H := HA.out
       clear HA
       simp only [stickfulref15_Lines.j1] at H
       by_cases c34 : x51_16 = true
       ·subst c34
        have H1 : (some (y392, 0)) = some (r1, r2) := by rw [if_pos rfl] at H; exact H
        clear H
        have H := H1
        clear H1
        simp only [Option.some.injEq, Prod.mk.injEq] at H
        obtain ⟨rfl, rfl⟩ := H
        go_wp2
        go_ret2
        exact ⟨_, by first | rfl | (simp [errW_none, errW_some] <;> rfl) | (simp [*, errW_none, errW_some] <;> rfl), by (with_reducible repeat (first | apply Kd.R_alloc | apply Kd.R_drewN | apply Kd.R_drew)); exact Kd.R_mono HO_12.out (fun _ hk => trivial), by repeat (first | (with_reducible first | exact HB.out | apply below_alloc | apply pw_below_drewN | apply below_drew1 | refine below_set ?_ GE383.out | refine below_set ?_ GE384.out | refine below_set ?_ GE391.out) | exact HB.out)⟩
       ·replace c34 := Bool.eq_false_iff.mpr c34
        subst c34
        have H1 : (if 0 ≤ t388 then (if t388 ≤ (l1.length : Int) then ((stickfulref14_Lines.f kj16 (l1.drop (t388 : Int).toNat) a3_0 a3_1 a3_0 a3_1).bind fun bt399 => (if bt399.2 = 0 then (stickfulref15_Lines.l0 kj16 y392 bt399.1 0 t387 t388 t389) else (some (([] : List (S43)), bt399.2)))) else (none)) else (none)) = some (r1, r2) := by rw [if_neg (show ¬ (false = true) by decide)] at H; exact H
        clear H
        have H := H1
        clear H1
        by_cases c35 : 0 ≤ t388
        ·rw [if_pos c35] at H
         have c35b0 := eq_true c35
         have c35b1 : decide (0 ≤ t388) = true := decide_eq_true c35
         clear c35
         by_cases c36 : t388 ≤ (l1.length : Int)
         ·rw [if_pos c36] at H
          have c36b0 := eq_true c36
          have c36b1 : decide (t388 ≤ (l1.length : Int)) = true := decide_eq_true c36
          clear c36
          obtain ⟨y395, hy395⟩ : ∃ y_ : List (S46), y_ = (l1.drop (t388 : Int).toNat) := ⟨_, rfl⟩
          replace H : ((stickfulref14_Lines.f kj16 y395 a3_0 a3_1 a3_0 a3_1).bind fun bt399 => (if bt399.2 = 0 then (stickfulref15_Lines.l0 kj16 y392 bt399.1 0 t387 t388 t389) else (some (([] : List (S43)), bt399.2)))) = some (r1, r2) := by first | (rw [hy395]; with_reducible exact H) | (have H2_ := (Option.bind_some _ _).symm.trans H; rw [hy395]; with_reducible exact H2_) | (have H2_ := (Option.bind_some _ _).symm.trans H; with_reducible exact H2_) | with_reducible exact H | (rw [hy395]; exact H) | exact H
          have Ny395 := Aside0.mk hy395
          clear hy395
          replace H := Option.bind_eq_some_iff.mp H
          obtain ⟨⟨t399, t402⟩, A370, H⟩ := H
          replace H : (if t402 = 0 then (stickfulref15_Lines.l0 kj16 y392 t399 0 t387 t388 t389) else (some (([] : List (S43)), t402))) = some (r1, r2) := H
          have A37 := Aside0.mk A370
          clear A370
          by_cases c38 : t402 = 0
          ·rw [if_pos c38] at H
           have c38b0 : (t402 == 0) = true := beq_iff_eq.mpr c38
           have c38b1 : (t402 != 0) = false := bne_eq_false_iff_eq.mpr c38
           clear c38
           have H' := Aside0.mk H
           clear H
           try go_wp2
           replace HO_12 := Aside0.mk (Kd.R_drew HO_12.out)
           replace BK383 := Aside0.mk (blk_drew BK383.out)
           replace BK384 := Aside0.mk (blk_drew BK384.out)
           replace BK391 := Aside0.mk (blk_drew BK391.out)
           replace HB := Aside0.mk (below_drew1 HB.out)
           have q40 : (t388 : Int) ≤ ((l1.length : Int) : Int) := of_decide_eq_true (by first | (with_reducible assumption) | assumption)
           obtain ⟨i040, hi040, _, hsz40, _⟩ := info_parts info46
           have hroom40 : l1.length ≤ c1 := HC1.out
           have hC40 : Kd.C k46 _ A1 l1.length l1 := HR1.out
           have q040 : (0 : Int) ≤ (t388 : Int) := of_decide_eq_true (by first | (with_reducible assumption) | assumption)
           have hcut40 := cut_from (P := Try.prog) 22 46 .i64 Try.underlying22 hi040 6 hsz40 A1 l1.length c1 t388 q040 q40
           have hr40 := Kd.C_drop (m := (t388 : Int).toNat) (c := c1) hC40 (by omega) hroom40
           obtain ⟨A40, hA40⟩ : ∃ Aq_, Aq_ = (if c1 = (t388 : Int).toNat then A1 else (A1 : Option Addr).map (·.add ((t388 : Int).toNat * 6))) := ⟨_, rfl⟩
           obtain ⟨c40, hc40⟩ : ∃ cq_, cq_ = c1 - (t388 : Int).toNat := ⟨_, rfl⟩
           have hy40 : y395.length = l1.length - (t388 : Int).toNat := (by rw [Ny395.out, List.length_drop] <;> omega)
           rw [show (l1).drop (t388 : Int).toNat = y395 from Ny395.out.symm] at hr40
           replace hr40 : Kd.C k46 _ A40 y395.length y395 := (by rw [hA40]; exact hr40)
           rw [← hy40, ← hA40, ← hc40] at hcut40
           have HR398 := Aside0.mk hr40
           have HC398 := Aside0.mk (show y395.length ≤ c40 from by rw [hy40, hc40]; exact Nat.sub_le_sub_right hroom40 _)
           clear hr40 hC40 hroom40 hi040 hsz40 hc40
           have KY40 := Aside0.mk hy40
           have KA40 := Aside0.mk hA40
           clear hy40 hA40
           replace q40 := eq_true q40
           refine start_ (n := 12) (S := fun w' => w'.cell? ⟨gb391, 0, none⟩ = some (.int .i64 t387) ∧ w'.cell? ⟨gb391, 1, none⟩ = some (.int .i64 t388) ∧ w'.cell? ⟨gb391, 2, none⟩ = some (.bool t389) ∧ w'.cell? ⟨gb384, 0, none⟩ = some (.int .i64 a3_0) ∧ w'.cell? ⟨gb384, 1, none⟩ = some (.int .i64 a3_1)) (ds := []) (stickfulref15_Lines.bm 12 0) (by kernel_rfl) rfl rfl ⟨bc BK391 0, bc BK391 1, bc BK391 2, bc BK384 0, bc BK384 1⟩ (fun hHeld => ?_); refine with_tabW stickfulref15_Lines.tab9 stickfulref15_Lines.bits9 (fun HT_ HW_ => ?_)
           generalize wc.drew = w39 at HO_12 BK383 BK384 BK391 HB HR398 hHeld ⊢
           refine pure_ (i := 0) (N := some 54) (v := ?_) (a' := ?_) (stickfulref15_Lines.bm 12 1) rfl rfl (any_of HT_.out (by kernel_rfl)) (fun _ _ _ h => h) (Or.inl ⟨by rfl, ?_⟩) ?_ ?_
           rotate_left; (focus intro w'; go_simp; with_reducible rfl); rotate_left; (focus simp only [Act.put, List.setIfInBounds_toArray, List.set_cons_zero, List.set_cons_succ, i64_w, i32_w]; rfl)
           refine pure_ (i := 1) (N := some 55) (v := ?_) (a' := ?_) (stickfulref15_Lines.bm 12 3) rfl rfl (any_of HT_.out (by kernel_rfl)) (fun _ _ _ h => h) (Or.inl ⟨by rfl, ?_⟩) ?_ ?_
           rotate_left; (focus intro w'; go_simp; with_reducible rfl); rotate_left; (focus simp only [Act.put, List.setIfInBounds_toArray, List.set_cons_zero, List.set_cons_succ, i64_w, i32_w]; rfl)
           refine take_ (i := 2) (N := some 56) (v := ?_) (a' := ?_) (stickfulref15_Lines.bm 12 7) rfl rfl (take_ofW HT_.out HW_.out (by kernel_rfl)) (fun _ _ _ h => h) (Or.inl ⟨by rfl, ?_⟩) hHeld ?_ ?_
           rotate_left; (focus rintro w' ⟨s0, s1, s2, s3, s4⟩; go_simp; with_reducible rfl); rotate_left; (focus simp only [Act.put, List.setIfInBounds_toArray, List.set_cons_zero, List.set_cons_succ, i64_w, i32_w]; rfl)
           refine pure_ (i := 3) (N := some 57) (v := ?_) (a' := ?_) (stickfulref15_Lines.bm 12 15) rfl rfl (any_of HT_.out (by kernel_rfl)) (fun _ _ _ h => h) (Or.inl ⟨by rfl, ?_⟩) ?_ ?_
           rotate_left; (focus intro w'; go_simp; with_reducible rfl); rotate_left; (focus simp only [Act.put, List.setIfInBounds_toArray, List.set_cons_zero, List.set_cons_succ, i64_w, i32_w]; rfl)
           refine take_ (i := 4) (N := some 58) (v := ?_) (a' := ?_) (stickfulref15_Lines.bm 12 31) rfl rfl (take_ofW HT_.out HW_.out (by kernel_rfl)) (fun _ _ _ h => h) (Or.inl ⟨by rfl, ?_⟩) hHeld ?_ ?_
           rotate_left; (focus rintro w' ⟨s0, s1, s2, s3, s4⟩; go_simp; with_reducible rfl); rotate_left; (focus simp only [Act.put, List.setIfInBounds_toArray, List.set_cons_zero, List.set_cons_succ, i64_w, i32_w]; rfl)
           refine take_ (i := 5) (N := some 59) (v := ?_) (a' := ?_) (stickfulref15_Lines.bm 12 63) rfl rfl (take_ofW HT_.out HW_.out (by kernel_rfl)) (fun _ _ _ h => h) (Or.inl ⟨by rfl, ?_⟩) hHeld ?_ ?_
           rotate_left; (focus rintro w' ⟨s0, s1, s2, s3, s4⟩; go_simp; with_reducible rfl); rotate_left; (focus simp only [Act.put, List.setIfInBounds_toArray, List.set_cons_zero, List.set_cons_succ, i64_w, i32_w]; rfl)
           refine one_ (i := 6) (N := some 60) (stickfulref15_Lines.bm 12 127) rfl rfl (one_of HT_.out (by kernel_rfl)) (by decide) (fun K hK => ?_)
           refine goes_ Try.func25 (by kernel_rfl) rfl #[.slice A40 y395.length c40, .agg #[.int .i64 a3_0, .int .i64 a3_1], .agg #[.int .i64 a3_0, .int .i64 a3_1]] (by rfl) rfl rfl (by (try simp only [List.map_toArray, List.map_cons, List.map_nil]); first | done | rfl | (simp only [List.length_drop, List.length_take]; rfl)) ?_
           with_reducible refine (stickfulref14_Lines.calls kj16 _ _ y395 a3_0 a3_1 a3_0 a3_1 t399 t402 _ ?side1 ?side2 A37.out).mono ?_
           (case side1 => repeat (first | exact (Kd.C_below HR398.out HB.out) | (with_reducible refine Kd.C_alloc ?_ _) | (with_reducible refine Kd.C_drewN ?_ _) | (with_reducible refine Kd.C_drew ?_)))
           (case side2 => exact HC398.out)
           rintro e w41 ⟨v400, rfl, ho0, hb⟩
           refine ⟨_, rfl, ?_⟩
           have HO401 := Aside0.mk (Kd.R_lower (Kd.R_newB (Kd.R_new' ho0 (Kd.R_lt (rx HO_12))) (bx BK391)) (below_size (bw HB)))
           replace HO_12 := Aside0.mk (Kd.R_elder' (rx HO_12) (Kd.R_base ho0) hb)
           replace BK383 := bb BK383 hb
           replace BK384 := bb BK384 hb
           replace BK391 := bb BK391 hb
           replace HB := bh HB hb
           (try clear hb)
           (try clear hb2)
           (try clear hk)
           (try clear hi)
           (try clear ho0)
           refine hK.out _ _ ⟨bc BK391 0, bc BK391 1, bc BK391 2, bc BK384 0, bc BK384 1⟩ (fun hHeld => ?_)
           clear hK K
           refine norm_ (a' := ?_) ?_ ?_
           rotate_left; (focus show Act.put _ (some 60) _ = _; simp only [Act.put, List.setIfInBounds_toArray, List.set_cons_zero, List.set_cons_succ, i64_w, i32_w]; rfl)
           refine pure_ (i := 7) (N := some 53) (v := ?_) (a' := ?_) (stickfulref15_Lines.bm 12 255) rfl rfl (any_of HT_.out (by kernel_rfl)) (fun _ _ _ h => h) (Or.inl ⟨by rfl, ?_⟩) ?_ ?_
           rotate_left; (focus intro w'; go_simp; with_reducible rfl); rotate_left; (focus simp only [Act.put, List.setIfInBounds_toArray, List.set_cons_zero, List.set_cons_succ, i64_w, i32_w]; rfl)
           refine pure_ (i := 8) (N := some 61) (v := ?_) (a' := ?_) (stickfulref15_Lines.bm 12 511) rfl rfl (any_of HT_.out (by kernel_rfl)) (fun _ _ _ h => h) (Or.inl ⟨by rfl, ?_⟩) ?_ ?_
           rotate_left; (focus intro w'; go_simp; with_reducible rfl); rotate_left; (focus simp only [Act.put, List.setIfInBounds_toArray, List.set_cons_zero, List.set_cons_succ, i64_w, i32_w]; rfl)
           refine pure_ (i := 9) (N := some 62) (v := ?_) (a' := ?_) (stickfulref15_Lines.bm 12 1023) rfl rfl (any_of HT_.out (by kernel_rfl)) (fun _ _ _ h => h) (Or.inl ⟨by rfl, ?_⟩) ?_ ?_
           rotate_left; (focus intro w'; go_simp; with_reducible rfl); rotate_left; (focus simp only [Act.put, List.setIfInBounds_toArray, List.set_cons_zero, List.set_cons_succ, i64_w, i32_w]; rfl)
           refine pure_ (i := 10) (N := some 13) (v := ?_) (a' := ?_) (stickfulref15_Lines.bm 12 2047) rfl rfl (any_of HT_.out (by kernel_rfl)) (fun _ _ _ h => h) (Or.inl ⟨by rfl, ?_⟩) ?_ ?_
           rotate_left; (focus intro w'; go_simp; with_reducible rfl); rotate_left; (focus simp only [Act.put, List.setIfInBounds_toArray, List.set_cons_zero, List.set_cons_succ, i64_w, i32_w]; rfl)
           refine pure_ (i := 11) (N := some 14) (v := ?_) (a' := ?_) (stickfulref15_Lines.bm 12 4095) rfl rfl (any_of HT_.out (by kernel_rfl)) (fun _ _ _ h => h) (Or.inl ⟨by rfl, ?_⟩) ?_ ?_
           rotate_left; (focus intro w'; go_simp; with_reducible rfl); rotate_left; (focus simp only [Act.put, List.setIfInBounds_toArray, List.set_cons_zero, List.set_cons_succ, i64_w, i32_w]; rfl)
           refine done_ (done_of HT_.out (by kernel_rfl)) ?_
           try go_wp2
           go_loopg [12, 15] kj16 (fun kq v12 v15 w' => ∃ (x12_3 : List (S43)) (x15_3 : Int), v15 = .int .i64 x15_3 ∧ Aside0 (stickfulref15_Lines.l0 kq x12_3 t399 x15_3 t387 t388 t389 = some (r1, r2)) ∧ Aside0 (kq ≤ kj16) ∧ Aside0 (Kd.R k43 43 w' w.heap.size (fun k_ => some k_ ≠ (v400 : Value).ownBlock ∧ k_ ≠ gb391) v12 x12_3) ∧ Aside0 (Kd.R k43 43 w' w.heap.size (fun k_ => some k_ ≠ (v12 : Value).ownBlock ∧ k_ ≠ gb391) v400 t399) ∧ Aside0 (w'.heap[gb383]? = some (.cells #[.int .i64 a2_0, .int .i64 a2_1] 24 (0, 0))) ∧ Aside0 (w'.heap[gb384]? = some (.cells #[.int .i64 a3_0, .int .i64 a3_1] 24 (0, 0))) ∧ Aside0 (w'.heap[gb391]? = some (.cells #[.int .i64 t387, .int .i64 t388, .bool t389] 43 (0, 0))) ∧ Aside0 (Below w.heap.size w w'))
           case atStart => exact ⟨(y392), (0), (by first | rfl | (simp; done) | (simp [*]; done)), H', ⟨Nat.le_refl _⟩, ⟨by (with_reducible repeat (first | apply Kd.R_alloc | apply Kd.R_drewN | apply Kd.R_drew)); exact Kd.R_mono HO_12.out (fun _ hk => ⟨hk.2, hk.1⟩)⟩, ⟨by (with_reducible repeat (first | apply Kd.R_alloc | apply Kd.R_drewN | apply Kd.R_drew)); exact Kd.R_mono HO401.out (fun _ hk => ⟨hk.1.2, hk.2⟩)⟩, ⟨by (with_reducible repeat (first | refine blk_drewN ?_ _ | refine blk_drew ?_ | refine blk_alloc ?_ _)); exact BK383.out⟩, ⟨by (with_reducible repeat (first | refine blk_drewN ?_ _ | refine blk_drew ?_ | refine blk_alloc ?_ _)); exact BK384.out⟩, ⟨by (with_reducible repeat (first | refine blk_drewN ?_ _ | refine blk_drew ?_ | refine blk_alloc ?_ _)); exact BK391.out⟩, ⟨by repeat (first | (with_reducible first | exact HB.out | apply below_alloc | apply pw_below_drewN | apply below_drew1 | refine below_set ?_ GE383.out | refine below_set ?_ GE384.out | refine below_set ?_ GE391.out) | exact HB.out)⟩⟩
           case round =>
            clear H'
            try clear c1
            try clear c2
            try clear p2
            try clear c3
            try clear c4
            try clear q4
            try clear c9
            try clear c10
            try clear c11
            try clear c12
            try clear c13
            try clear c14
            try clear c16
            try clear c16b0
            try clear c16b1
            try clear c18
            try clear c22
            try clear c23
            try clear c24
            try clear c25
            try clear c27
            try clear c28
            try clear c29
            try clear c31
            try clear c32
            try clear c34
            try clear c35
            try clear c35b0
            try clear c35b1
            try clear c36
            try clear c36b0
            try clear c36b1
            try clear c38
            try clear c38b0
            try clear c38b1
            try clear c40
            try clear q40
            try clear hcz13_0
            try clear hcz13_1
            try clear hcz19_0
            try clear hcz19_1
            try clear hcz24_0
            try clear hcz24_1
            try clear hcz24_2
            try clear hcz30_0
            try clear hcz30_1
            try clear hcz30_2
            try clear hcz33_0
            try clear hcz33_1
            try clear hcz33_2
            try clear hfz13_0
            try clear hfz13_1
            try clear hfz19_0
            try clear hfz19_1
            try clear hfz24_0
            try clear hfz24_1
            try clear hfz24_2
            try clear hfz30_0
            try clear hfz30_1
            try clear hfz30_2
            try clear hfz33_0
            try clear hfz33_1
            try clear hfz33_2
            try clear p2
            try clear q040
            try clear q40
            obtain ⟨x12_3, x15_3, rfl, HA, HK3, HO_12, HO_13, BK383, BK384, BK391, HB⟩ := hrel
            cases gk with
            | zero => exact absurd HA.out (by simp [stickfulref15_Lines.l0])
            | succ k3 =>
             have H := HA.out
             clear HA
             simp only [stickfulref15_Lines.l0] at H
             by_cases c42 : x15_3 < (t399.length : Int)
             ·rw [if_pos c42] at H
              have c42b0 : decide (x15_3 < (t399.length : Int)) = true := decide_eq_true c42
              clear c42
              by_cases c43 : 0 ≤ x15_3
              ·rw [if_pos c43] at H
               have c43b0 : decide (0 ≤ x15_3) = true := decide_eq_true c43
               clear c43
               by_cases c44 : x12_3.length < 5864062014805
               ·rw [if_pos c44] at H
                have LMc44 := Aside0.mk c44
                clear c44
                obtain ⟨y405, hy405⟩ : ∃ y_ : List (S43), y_ = (x12_3 ++ [(⟨wrap64 (((rd_T43 t399 x15_3).f0) + t388), wrap64 (((rd_T43 t399 x15_3).f1) + t388), (rd_T43 t399 x15_3).f2⟩ : S43)]) := ⟨_, rfl⟩
                replace H : (stickfulref15_Lines.l0 k3 y405 t399 (wrap64 (x15_3 + 1)) t387 t388 t389) = some (r1, r2) := by first | (rw [hy405]; with_reducible exact H) | (have H2_ := (Option.bind_some _ _).symm.trans H; rw [hy405]; with_reducible exact H2_) | (have H2_ := (Option.bind_some _ _).symm.trans H; with_reducible exact H2_) | with_reducible exact H | (rw [hy405]; exact H) | exact H
                have Ny405 := Aside0.mk hy405
                clear hy405
                have H' := Aside0.mk H
                clear H
                obtain ⟨Ao45, co45, eo45⟩ := Kd.R_slice HO_13.out
                subst eo45
                have p403 : 0 ≤ (x15_3 : Int) := of_decide_eq_true (by first | (with_reducible assumption) | assumption)
                have q403 : x15_3 < (t399.length : Int) := of_decide_eq_true (by first | (with_reducible assumption) | assumption)
                obtain ⟨ad403, e403, hx403_0, hx403_1, hx403_2⟩ := at_T43 (Kd.R_reads' HO_13.out).2.2 x15_3 p403 q403
                cases e403
                replace p403 := eq_true p403
                replace q403 := eq_true q403
                go_wp2_with (first | ((with_reducible refine gate_dst (N := 16) rfl ?_); (try (refine gate_guard (by rfl) ?_; dsimp only)); refine box_event ?hg (N := 16) ?hd (cs := #[.int .i64 0, .int .i64 0, .bool false]) (t := 43) ?hr ?_; (case hd => rfl); (case hg => rfl); (case hr => first | (go_simp; done) | (go_simp; rfl)); intro gb404 hg w46 hbox hb; replace HO_12 := Aside0.mk (Kd.R_below (Kd.R_elderB (rx HO_12) gb404 (Nat.le_of_eq hg.symm)) hb); replace HO_13 := Aside0.mk (Kd.R_below (Kd.R_elderB (rx HO_13) gb404 (Nat.le_of_eq hg.symm)) hb); have BK404 := Aside0.mk (hbox); have GW404 := bge HB hg; have GE404 := bge HB hg; replace HB := bh HB hb; have NB383_404 := nbl BK383 hg; have NB404_383 := nbg BK383 hg; replace BK383 := bb BK383 hb; have NB384_404 := nbl BK384 hg; have NB404_384 := nbg BK384 hg; replace BK384 := bb BK384 hb; have NB391_404 := nbl BK391 hg; have NB404_391 := nbg BK391 hg; replace BK391 := bb BK391 hb; clear hb hbox hg; have hnb47 := NB404_383.out; have hnc47 := NB383_404.out; have hnb48 := NB404_384.out; have hnc48 := NB384_404.out; have hnb49 := NB404_391.out; have hnc49 := NB391_404.out; obtain ⟨hcz50_0, hcz50_1, hcz50_2⟩ := cz3 BK404; obtain ⟨hfz50_0, hfz50_1, hfz50_2⟩ := fz3 BK404; have hnb51 := NB391_383.out; have hnc51 := NB383_391.out; have hnb52 := NB391_384.out; have hnc52 := NB384_391.out; obtain ⟨hcz53_0, hcz53_1, hcz53_2⟩ := cz3 BK391; obtain ⟨hfz53_0, hfz53_1, hfz53_2⟩ := fz3 BK391) | ((with_reducible refine gate_builtin (b := .append) (xs := #[.tmp 76, .tmp 90]) rfl ?_); (try (refine gate_guard (by rfl) ?_; dsimp only)); at_builtin; refine Kd.R_append k43 (w0 := w) w.heap.size rfl (.tmp 76) (.tmp 90) 29 43 (.agg #[(.int .i64 0), (.int .i64 0), (.bool false)]) 24 rfl Try.underlying29 info43 rfl (by decide) (by omega) u12 x12_3 (⟨wrap64 (((rd_T43 t399 x15_3).f0) + t388), wrap64 (((rd_T43 t399 x15_3).f1) + t388), (rd_T43 t399 x15_3).f2⟩ : S43) [.int .i64 (wrap64 (((rd_T43 t399 x15_3).f0) + t388)), .int .i64 (wrap64 (((rd_T43 t399 x15_3).f1) + t388)), .bool ((rd_T43 t399 x15_3).f2)] (fun k_ => some k_ ≠ (.slice (some ad403) t399.length co45 : Value).ownBlock ∧ k_ ≠ gb391 ∧ k_ ≠ gb404) (fun _ => False) rfl (by first | (go_simp; done) | (go_simp; rfl)) ?aP (fun _ hk => hk.elim) ?aF ?aO ?aB ?aS ?aL ?_; (case aP => exact k43_mkM _ _ _ (⟨wrap64 (((rd_T43 t399 x15_3).f0) + t388), wrap64 (((rd_T43 t399 x15_3).f1) + t388), (rd_T43 t399 x15_3).f2⟩ : S43)); (case aB => exact (bw HB)); (case aF => exact (fun k_ hk => ⟨Kd.fresh' (Kd.R_lt (by (with_reducible repeat (first | apply Kd.R_alloc | apply Kd.R_drewN | apply Kd.R_drew)); exact (Kd.R_mono (Kd.R_far (p := ⟨gb404, 2, none⟩) (Kd.R_far (p := ⟨gb404, 1, none⟩) (Kd.R_far (p := ⟨gb404, 0, none⟩) (Kd.R_mono HO_13.out (fun k_ hk => (⟨hk, hk.2⟩ : _ ∧ k_ ≠ gb404))) (fun _ hk => hk.2) (.int .i64 ((rd_T43 t399 x15_3).f0))) (fun _ hk => hk.2) (.int .i64 ((rd_T43 t399 x15_3).f1))) (fun _ hk => hk.2) (.bool ((rd_T43 t399 x15_3).f2))) (fun _ h_ => h_.1)))) k_ hk, Kd.freshB (bx BK391) k_ hk, Kd.freshB (o := .cells #[.int .i64 ((rd_T43 t399 x15_3).f0), .int .i64 ((rd_T43 t399 x15_3).f1), .bool ((rd_T43 t399 x15_3).f2)] 43 (0, 0)) (bp BK404) k_ hk⟩)); (case aO => exact (by (with_reducible repeat (first | apply Kd.R_alloc | apply Kd.R_drewN | apply Kd.R_drew)); exact Kd.R_mono (Kd.R_far (p := ⟨gb404, 2, none⟩) (Kd.R_far (p := ⟨gb404, 1, none⟩) (Kd.R_far (p := ⟨gb404, 0, none⟩) (Kd.R_mono HO_12.out (fun k_ hk => (⟨hk, hk.2⟩ : _ ∧ k_ ≠ gb404))) (fun _ hk => hk.2) (.int .i64 ((rd_T43 t399 x15_3).f0))) (fun _ hk => hk.2) (.int .i64 ((rd_T43 t399 x15_3).f1))) (fun _ hk => hk.2) (.bool ((rd_T43 t399 x15_3).f2))) (fun _ hk => ⟨hk.1.1.1, ⟨hk.1.1.2, hk.1.2⟩⟩))); (case aS => exact (below_size (bw HB))); (case aL => have := LMc44.out; omega); intro v406 w54 ho hb hg hat; rw [← Ny405.out] at ho; replace HO_13 := Aside0.mk (Kd.R_after (ok := (fun k_ => k_ ≠ gb391 ∧ k_ ≠ gb404)) (by (with_reducible repeat (first | apply Kd.R_alloc | apply Kd.R_drewN | apply Kd.R_drew)); exact Kd.R_mono (Kd.R_far (p := ⟨gb404, 2, none⟩) (Kd.R_far (p := ⟨gb404, 1, none⟩) (Kd.R_far (p := ⟨gb404, 0, none⟩) (Kd.R_mono HO_13.out (fun k_ hk => (⟨hk, hk.2⟩ : _ ∧ k_ ≠ gb404))) (fun _ hk => hk.2) (.int .i64 ((rd_T43 t399 x15_3).f0))) (fun _ hk => hk.2) (.int .i64 ((rd_T43 t399 x15_3).f1))) (fun _ hk => hk.2) (.bool ((rd_T43 t399 x15_3).f2))) (fun _ hk => ⟨⟨hk.1.1.2, hk.1.2⟩, hk.1.1.1⟩)) hg hat); replace BK383 := Aside0.mk (blk_grown (bx BK383) hg (by first | exact Kd.R_ne HO_12.out BK383.out (by decide) | exact (fun e => by have z := And.left HO_12.out _ e.symm; simp at z))); replace BK384 := Aside0.mk (blk_grown (bx BK384) hg (by first | exact Kd.R_ne HO_12.out BK384.out (by decide) | exact (fun e => by have z := And.left HO_12.out _ e.symm; simp at z))); replace BK391 := Aside0.mk (blk_grown (bx BK391) hg (Kd.R_away HO_12.out (fun _ hk => hk.1.2))); replace BK404 := Aside0.mk (blk_grown (o := .cells #[.int .i64 ((rd_T43 t399 x15_3).f0), .int .i64 ((rd_T43 t399 x15_3).f1), .bool ((rd_T43 t399 x15_3).f2)] 43 (0, 0)) (bp BK404) hg (Kd.R_away HO_12.out (fun _ hk => hk.2))); replace HB := Aside0.mk (hb); have HO407 := Aside0.mk (ho); clear HO_12; clear ho hb hg hat))
                go_roundg k3
                case measure => have := HJ4.out; have := HJ16.out; have := HK3.out; omega
                case rel => exact ⟨(y405), (wrap64 (x15_3 + 1)), (by first | rfl | (simp; done) | (simp [*]; done)), H', ⟨by have := HJ4.out; have := HJ16.out; have := HK3.out; omega⟩, ⟨by (with_reducible repeat (first | apply Kd.R_alloc | apply Kd.R_drewN | apply Kd.R_drew)); exact Kd.R_mono HO407.out (fun _ hk => ⟨hk.1, hk.2.1⟩)⟩, ⟨by (with_reducible repeat (first | apply Kd.R_alloc | apply Kd.R_drewN | apply Kd.R_drew)); exact Kd.R_mono HO_13.out (fun _ hk => ⟨hk.2, hk.1.1⟩)⟩, ⟨by (with_reducible repeat (first | refine blk_drewN ?_ _ | refine blk_drew ?_ | refine blk_alloc ?_ _)); exact BK383.out⟩, ⟨by (with_reducible repeat (first | refine blk_drewN ?_ _ | refine blk_drew ?_ | refine blk_alloc ?_ _)); exact BK384.out⟩, ⟨by (with_reducible repeat (first | refine blk_drewN ?_ _ | refine blk_drew ?_ | refine blk_alloc ?_ _)); exact BK391.out⟩, ⟨by repeat (first | (with_reducible first | exact HB.out | apply below_alloc | apply pw_below_drewN | apply below_drew1 | refine below_set ?_ GE383.out | refine below_set ?_ GE384.out | refine below_set ?_ GE391.out | refine below_set ?_ GE404.out) | exact HB.out)⟩⟩
               ·rw [if_neg c44] at H
                exact absurd H (by simp)
              ·rw [if_neg c43] at H
               exact absurd H (by simp)
             ·rw [if_neg c42] at H
              have c42b0 : decide (x15_3 < (t399.length : Int)) = false := decide_eq_false c42
              clear c42
              simp only [Option.some.injEq, Prod.mk.injEq] at H
              obtain ⟨rfl, rfl⟩ := H
              obtain ⟨Ao55, co55, eo55⟩ := Kd.R_slice HO_13.out
              subst eo55
              go_wp2
              go_ret2
              exact ⟨_, by first | rfl | (simp [errW_none, errW_some] <;> rfl) | (simp [*, errW_none, errW_some] <;> rfl), by (with_reducible repeat (first | apply Kd.R_alloc | apply Kd.R_drewN | apply Kd.R_drew)); exact Kd.R_mono HO_12.out (fun _ hk => trivial), by repeat (first | (with_reducible first | exact HB.out | apply below_alloc | apply pw_below_drewN | apply below_drew1 | refine below_set ?_ GE383.out | refine below_set ?_ GE384.out | refine below_set ?_ GE391.out) | exact HB.out)⟩
          ·rw [if_neg c38] at H
           have c38b0 : (t402 == 0) = false := beq_eq_false_iff_ne.mpr c38
           have c38b1 : (t402 != 0) = true := bne_iff_ne.mpr c38
           simp only [Option.some.injEq, Prod.mk.injEq] at H
           obtain ⟨rfl, rfl⟩ := H
           try go_wp2
           replace HO_12 := Aside0.mk (Kd.R_drew HO_12.out)
           replace BK383 := Aside0.mk (blk_drew BK383.out)
           replace BK384 := Aside0.mk (blk_drew BK384.out)
           replace BK391 := Aside0.mk (blk_drew BK391.out)
           replace HB := Aside0.mk (below_drew1 HB.out)
           have q57 : (t388 : Int) ≤ ((l1.length : Int) : Int) := of_decide_eq_true (by first | (with_reducible assumption) | assumption)
           obtain ⟨i057, hi057, _, hsz57, _⟩ := info_parts info46
           have hroom57 : l1.length ≤ c1 := HC1.out
           have hC57 : Kd.C k46 _ A1 l1.length l1 := HR1.out
           have q057 : (0 : Int) ≤ (t388 : Int) := of_decide_eq_true (by first | (with_reducible assumption) | assumption)
           have hcut57 := cut_from (P := Try.prog) 22 46 .i64 Try.underlying22 hi057 6 hsz57 A1 l1.length c1 t388 q057 q57
           have hr57 := Kd.C_drop (m := (t388 : Int).toNat) (c := c1) hC57 (by omega) hroom57
           obtain ⟨A57, hA57⟩ : ∃ Aq_, Aq_ = (if c1 = (t388 : Int).toNat then A1 else (A1 : Option Addr).map (·.add ((t388 : Int).toNat * 6))) := ⟨_, rfl⟩
           obtain ⟨c57, hc57⟩ : ∃ cq_, cq_ = c1 - (t388 : Int).toNat := ⟨_, rfl⟩
           have hy57 : y395.length = l1.length - (t388 : Int).toNat := (by rw [Ny395.out, List.length_drop] <;> omega)
           rw [show (l1).drop (t388 : Int).toNat = y395 from Ny395.out.symm] at hr57
           replace hr57 : Kd.C k46 _ A57 y395.length y395 := (by rw [hA57]; exact hr57)
           rw [← hy57, ← hA57, ← hc57] at hcut57
           have HR398 := Aside0.mk hr57
           have HC398 := Aside0.mk (show y395.length ≤ c57 from by rw [hy57, hc57]; exact Nat.sub_le_sub_right hroom57 _)
           clear hr57 hC57 hroom57 hi057 hsz57 hc57
           have KY57 := Aside0.mk hy57
           have KA57 := Aside0.mk hA57
           clear hy57 hA57
           replace q57 := eq_true q57
           refine start_ (n := 12) (S := fun w' => w'.cell? ⟨gb391, 0, none⟩ = some (.int .i64 t387) ∧ w'.cell? ⟨gb391, 1, none⟩ = some (.int .i64 t388) ∧ w'.cell? ⟨gb391, 2, none⟩ = some (.bool t389) ∧ w'.cell? ⟨gb384, 0, none⟩ = some (.int .i64 a3_0) ∧ w'.cell? ⟨gb384, 1, none⟩ = some (.int .i64 a3_1)) (ds := []) (stickfulref15_Lines.bm 12 0) (by kernel_rfl) rfl rfl ⟨bc BK391 0, bc BK391 1, bc BK391 2, bc BK384 0, bc BK384 1⟩ (fun hHeld => ?_); refine with_tabW stickfulref15_Lines.tab9 stickfulref15_Lines.bits9 (fun HT_ HW_ => ?_)
           generalize wc.drew = w56 at HO_12 BK383 BK384 BK391 HB HR398 hHeld ⊢
           refine pure_ (i := 0) (N := some 54) (v := ?_) (a' := ?_) (stickfulref15_Lines.bm 12 1) rfl rfl (any_of HT_.out (by kernel_rfl)) (fun _ _ _ h => h) (Or.inl ⟨by rfl, ?_⟩) ?_ ?_
           rotate_left; (focus intro w'; go_simp; with_reducible rfl); rotate_left; (focus simp only [Act.put, List.setIfInBounds_toArray, List.set_cons_zero, List.set_cons_succ, i64_w, i32_w]; rfl)
           refine pure_ (i := 1) (N := some 55) (v := ?_) (a' := ?_) (stickfulref15_Lines.bm 12 3) rfl rfl (any_of HT_.out (by kernel_rfl)) (fun _ _ _ h => h) (Or.inl ⟨by rfl, ?_⟩) ?_ ?_
           rotate_left; (focus intro w'; go_simp; with_reducible rfl); rotate_left; (focus simp only [Act.put, List.setIfInBounds_toArray, List.set_cons_zero, List.set_cons_succ, i64_w, i32_w]; rfl)
           refine take_ (i := 2) (N := some 56) (v := ?_) (a' := ?_) (stickfulref15_Lines.bm 12 7) rfl rfl (take_ofW HT_.out HW_.out (by kernel_rfl)) (fun _ _ _ h => h) (Or.inl ⟨by rfl, ?_⟩) hHeld ?_ ?_
           rotate_left; (focus rintro w' ⟨s0, s1, s2, s3, s4⟩; go_simp; with_reducible rfl); rotate_left; (focus simp only [Act.put, List.setIfInBounds_toArray, List.set_cons_zero, List.set_cons_succ, i64_w, i32_w]; rfl)
           refine pure_ (i := 3) (N := some 57) (v := ?_) (a' := ?_) (stickfulref15_Lines.bm 12 15) rfl rfl (any_of HT_.out (by kernel_rfl)) (fun _ _ _ h => h) (Or.inl ⟨by rfl, ?_⟩) ?_ ?_
           rotate_left; (focus intro w'; go_simp; with_reducible rfl); rotate_left; (focus simp only [Act.put, List.setIfInBounds_toArray, List.set_cons_zero, List.set_cons_succ, i64_w, i32_w]; rfl)
           refine take_ (i := 4) (N := some 58) (v := ?_) (a' := ?_) (stickfulref15_Lines.bm 12 31) rfl rfl (take_ofW HT_.out HW_.out (by kernel_rfl)) (fun _ _ _ h => h) (Or.inl ⟨by rfl, ?_⟩) hHeld ?_ ?_
           rotate_left; (focus rintro w' ⟨s0, s1, s2, s3, s4⟩; go_simp; with_reducible rfl); rotate_left; (focus simp only [Act.put, List.setIfInBounds_toArray, List.set_cons_zero, List.set_cons_succ, i64_w, i32_w]; rfl)
           refine take_ (i := 5) (N := some 59) (v := ?_) (a' := ?_) (stickfulref15_Lines.bm 12 63) rfl rfl (take_ofW HT_.out HW_.out (by kernel_rfl)) (fun _ _ _ h => h) (Or.inl ⟨by rfl, ?_⟩) hHeld ?_ ?_
           rotate_left; (focus rintro w' ⟨s0, s1, s2, s3, s4⟩; go_simp; with_reducible rfl); rotate_left; (focus simp only [Act.put, List.setIfInBounds_toArray, List.set_cons_zero, List.set_cons_succ, i64_w, i32_w]; rfl)
           refine one_ (i := 6) (N := some 60) (stickfulref15_Lines.bm 12 127) rfl rfl (one_of HT_.out (by kernel_rfl)) (by decide) (fun K hK => ?_)
           refine goes_ Try.func25 (by kernel_rfl) rfl #[.slice A57 y395.length c57, .agg #[.int .i64 a3_0, .int .i64 a3_1], .agg #[.int .i64 a3_0, .int .i64 a3_1]] (by rfl) rfl rfl (by (try simp only [List.map_toArray, List.map_cons, List.map_nil]); first | done | rfl | (simp only [List.length_drop, List.length_take]; rfl)) ?_
           with_reducible refine (stickfulref14_Lines.calls kj16 _ _ y395 a3_0 a3_1 a3_0 a3_1 t399 t402 _ ?side1 ?side2 A37.out).mono ?_
           (case side1 => repeat (first | exact (Kd.C_below HR398.out HB.out) | (with_reducible refine Kd.C_alloc ?_ _) | (with_reducible refine Kd.C_drewN ?_ _) | (with_reducible refine Kd.C_drew ?_)))
           (case side2 => exact HC398.out)
           rintro e w58 ⟨v400, rfl, ho0, hb⟩
           refine ⟨_, rfl, ?_⟩
           have HO401 := Aside0.mk (Kd.R_lower (Kd.R_newB (Kd.R_new' ho0 (Kd.R_lt (rx HO_12))) (bx BK391)) (below_size (bw HB)))
           replace HO_12 := Aside0.mk (Kd.R_elder' (rx HO_12) (Kd.R_base ho0) hb)
           replace BK383 := bb BK383 hb
           replace BK384 := bb BK384 hb
           replace BK391 := bb BK391 hb
           replace HB := bh HB hb
           (try clear hb)
           (try clear hb2)
           (try clear hk)
           (try clear hi)
           (try clear ho0)
           refine hK.out _ _ ⟨bc BK391 0, bc BK391 1, bc BK391 2, bc BK384 0, bc BK384 1⟩ (fun hHeld => ?_)
           clear hK K
           refine norm_ (a' := ?_) ?_ ?_
           rotate_left; (focus show Act.put _ (some 60) _ = _; simp only [Act.put, List.setIfInBounds_toArray, List.set_cons_zero, List.set_cons_succ, i64_w, i32_w]; rfl)
           refine pure_ (i := 7) (N := some 53) (v := ?_) (a' := ?_) (stickfulref15_Lines.bm 12 255) rfl rfl (any_of HT_.out (by kernel_rfl)) (fun _ _ _ h => h) (Or.inl ⟨by rfl, ?_⟩) ?_ ?_
           rotate_left; (focus intro w'; go_simp; with_reducible rfl); rotate_left; (focus simp only [Act.put, List.setIfInBounds_toArray, List.set_cons_zero, List.set_cons_succ, i64_w, i32_w]; rfl)
           refine pure_ (i := 8) (N := some 61) (v := ?_) (a' := ?_) (stickfulref15_Lines.bm 12 511) rfl rfl (any_of HT_.out (by kernel_rfl)) (fun _ _ _ h => h) (Or.inl ⟨by rfl, ?_⟩) ?_ ?_
           rotate_left; (focus intro w'; go_simp; with_reducible rfl); rotate_left; (focus simp only [Act.put, List.setIfInBounds_toArray, List.set_cons_zero, List.set_cons_succ, i64_w, i32_w]; rfl)
           refine pure_ (i := 9) (N := some 62) (v := ?_) (a' := ?_) (stickfulref15_Lines.bm 12 1023) rfl rfl (any_of HT_.out (by kernel_rfl)) (fun _ _ _ h => h) (Or.inl ⟨by rfl, ?_⟩) ?_ ?_
           rotate_left; (focus intro w'; go_simp; with_reducible rfl); rotate_left; (focus simp only [Act.put, List.setIfInBounds_toArray, List.set_cons_zero, List.set_cons_succ, i64_w, i32_w]; rfl)
           refine pure_ (i := 10) (N := some 13) (v := ?_) (a' := ?_) (stickfulref15_Lines.bm 12 2047) rfl rfl (any_of HT_.out (by kernel_rfl)) (fun _ _ _ h => h) (Or.inl ⟨by rfl, ?_⟩) ?_ ?_
           rotate_left; (focus intro w'; go_simp; with_reducible rfl); rotate_left; (focus simp only [Act.put, List.setIfInBounds_toArray, List.set_cons_zero, List.set_cons_succ, i64_w, i32_w]; rfl)
           refine pure_ (i := 11) (N := some 14) (v := ?_) (a' := ?_) (stickfulref15_Lines.bm 12 4095) rfl rfl (any_of HT_.out (by kernel_rfl)) (fun _ _ _ h => h) (Or.inl ⟨by rfl, ?_⟩) ?_ ?_
           rotate_left; (focus intro w'; go_simp; with_reducible rfl); rotate_left; (focus simp only [Act.put, List.setIfInBounds_toArray, List.set_cons_zero, List.set_cons_succ, i64_w, i32_w]; rfl)
           refine done_ (done_of HT_.out (by kernel_rfl)) ?_
           try go_wp2
           go_ret2
           exact ⟨_, by first | rfl | (simp [errW_none, errW_some] <;> rfl) | (simp [*, errW_none, errW_some] <;> rfl), by first | exact Kd.R_nil _ _ _ _ _ | exact Kd.N_nil _ _ _ _ _ | exact Kd.V_nil _ _ _ _ _ | exact Kd.Q_nil _ _ _ _ _ | exact Kd.S_nil _ _ _ _ _, by repeat (first | (with_reducible first | exact HB.out | apply below_alloc | apply pw_below_drewN | apply below_drew1 | refine below_set ?_ GE383.out | refine below_set ?_ GE384.out | refine below_set ?_ GE391.out) | exact HB.out)⟩
         ·rw [if_neg c36] at H
          exact absurd H (by simp)
        ·rw [if_neg c35] at H
         exact absurd H (by simp)
    ·rw [if_neg c16] at H
     have c16b0 : (t390 == 0) = false := beq_eq_false_iff_ne.mpr c16
     have c16b1 : (t390 != 0) = true := bne_iff_ne.mpr c16
     simp only [Option.some.injEq, Prod.mk.injEq] at H
     obtain ⟨rfl, rfl⟩ := H
     have hnb59 := NB383_384.out
     have hnc59 := NB384_383.out
     obtain ⟨hcz60_0, hcz60_1⟩ := cz2 BK383
     obtain ⟨hfz60_0, hfz60_1⟩ := fz2 BK383
     go_wp2_with (first | ((with_reducible refine gate_callee (f := 24) rfl ?_); refine goesB (some 34) rfl rfl Try.func24 #[.slice A0 l0.length c0, .int .i64 0, .agg #[.int .i64 a2_0, .int .i64 a2_1]] rfl ?_; (with_reducible refine (stickfulref14_One.calls kj4 _ _ l0 0 a2_0 a2_1 t387 t388 t389 t390 _ ?side1 ?side2 A15.out).mono ?_); (case side1 => repeat (first | exact (Kd.C_below HR0.out HB.out) | (with_reducible refine Kd.C_alloc ?_ _) | (with_reducible refine Kd.C_drewN ?_ _) | (with_reducible refine Kd.C_drew ?_))); (case side2 => exact HC0.out); rintro e w61 ⟨rfl, hb⟩; refine ⟨_, rfl, ?_⟩; replace BK383 := bb BK383 hb; replace BK384 := bb BK384 hb; replace HB := bh HB hb; (try clear hb); (try clear hb2); (try clear hk); (try clear hi)) | ((with_reducible refine gate_dst (N := 10) rfl ?_); (try (refine gate_guard (by rfl) ?_; dsimp only)); refine box_event ?hg (N := 10) ?hd (cs := #[.int .i64 0, .int .i64 0, .bool false]) (t := 43) ?hr ?_; (case hd => rfl); (case hg => rfl); (case hr => first | (go_simp; done) | (go_simp; rfl)); intro gb391 hg w62 hbox hb; have BK391 := Aside0.mk (hbox); have GW391 := bge HB hg; have GE391 := bge HB hg; replace HB := bh HB hb; have NB383_391 := nbl BK383 hg; have NB391_383 := nbg BK383 hg; replace BK383 := bb BK383 hb; have NB384_391 := nbl BK384 hg; have NB391_384 := nbg BK384 hg; replace BK384 := bb BK384 hb; clear hb hbox hg; have hnb63 := NB391_383.out; have hnc63 := NB383_391.out; have hnb64 := NB391_384.out; have hnc64 := NB384_391.out; obtain ⟨hcz65_0, hcz65_1, hcz65_2⟩ := cz3 BK391; obtain ⟨hfz65_0, hfz65_1, hfz65_2⟩ := fz3 BK391))
     go_ret2
     exact ⟨_, by first | rfl | (simp [errW_none, errW_some] <;> rfl) | (simp [*, errW_none, errW_some] <;> rfl), by first | exact Kd.R_nil _ _ _ _ _ | exact Kd.N_nil _ _ _ _ _ | exact Kd.V_nil _ _ _ _ _ | exact Kd.Q_nil _ _ _ _ _ | exact Kd.S_nil _ _ _ _ _, by repeat (first | (with_reducible first | exact HB.out | apply below_alloc | apply pw_below_drewN | apply below_drew1 | refine below_set ?_ GE383.out | refine below_set ?_ GE384.out | refine below_set ?_ GE391.out) | exact HB.out)⟩

end Go.Proofs.Ytdmlnkgpjileaaa.HFirst
