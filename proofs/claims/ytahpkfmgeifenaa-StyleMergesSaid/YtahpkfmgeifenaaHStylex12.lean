-- Written by this claim's own program over the kit's print.
import Derived.Test.YtahpkfmgeifenaaHStyleb
import Derived.Test.YtahpkfmgeifenaaHStylex0
import Derived.Test.YtahpkfmgeifenaaHStylex7
namespace Go.Proofs.Ytahpkfmgeifenaa.HStyle
open Go.RowKit Go.Proofs.YtahpkfmgeifenaaW.PrintWords Go.Proofs.YtahpkfmgeifenaaW.PrintLast Go.Proofs.YtahpkfmgeifenaaW.PrintMore Go.Proofs.Ytahpkfmgeifenaa.Hand
attribute [local go_sem] max2_int min2_int max_two min_two max_three min_three max_four min_four   -- for this text's walks alone
set_option linter.unusedVariables false
set_option linter.unusedSimpArgs false

/-! ### stickfulref06_At: function 34 -/
mutual
def stickfulref06_At.l0 : Nat → List Int → List (S26) → Int → Int → Int → Int → Int → Int → Int → Int → Int → Int → Int → Option (Int × Int × Int × Int × Int × Int × Int × Int × Int)
  | 0, _, _, _, _, _, _, _, _, _, _, _, _, _ => none
  | k + 1, x1, x2, x3, x10, x383000, x383001, x383002, x383003, x383004, x383005, x383006, x383007, x383008 => if x10 < 8 then (stickfulref06_At.l1 k x1 x2 x3 x10 x3 x383000 x383001 x383002 x383003 x383004 x383005 x383006 x383007 x383008) else (some (x383000, x383001, x383002, x383003, x383004, x383005, x383006, x383007, x383008))
def stickfulref06_At.l1 : Nat → List Int → List (S26) → Int → Int → Int → Int → Int → Int → Int → Int → Int → Int → Int → Int → Option (Int × Int × Int × Int × Int × Int × Int × Int × Int)
  | 0, _, _, _, _, _, _, _, _, _, _, _, _, _, _ => none
  | k + 1, x1, x2, x3, x10, x11, x383000, x383001, x383002, x383003, x383004, x383005, x383006, x383007, x383008 => if x11 ≥ 0 then (if 0 ≤ x11 then (if x11 < (x2.length : Int) then ((stickfulref06_Says.f ((rd_T26 x2 x11).f0) ((rd_T26 x2 x11).f1.f0) ((rd_T26 x2 x11).f1.f1) ((rd_T26 x2 x11).f1.f2) ((rd_T26 x2 x11).f1.f3) ((rd_T26 x2 x11).f1.f4) ((rd_T26 x2 x11).f1.f5) ((rd_T26 x2 x11).f1.f6) ((rd_T26 x2 x11).f1.f7) ((rd_T26 x2 x11).f1.f8) x10).bind fun t384 => (if t384 = true then ((stickfulref06_One.f x383000 x383001 x383002 x383003 x383004 x383005 x383006 x383007 x383008 ((rd_T26 x2 x11).f1.f0) ((rd_T26 x2 x11).f1.f1) ((rd_T26 x2 x11).f1.f2) ((rd_T26 x2 x11).f1.f3) ((rd_T26 x2 x11).f1.f4) ((rd_T26 x2 x11).f1.f5) ((rd_T26 x2 x11).f1.f6) ((rd_T26 x2 x11).f1.f7) ((rd_T26 x2 x11).f1.f8) x10).bind fun bt386 => (stickfulref06_At.l0 k x1 x2 x3 (wrap64 (x10 + 1)) bt386.1 bt386.2.1 bt386.2.2.1 bt386.2.2.2.1 bt386.2.2.2.2.1 bt386.2.2.2.2.2.1 bt386.2.2.2.2.2.2.1 bt386.2.2.2.2.2.2.2.1 bt386.2.2.2.2.2.2.2.2)) else (if x11 < (x1.length : Int) then (stickfulref06_At.l1 k x1 x2 x3 x10 (rd x1 x11) x383000 x383001 x383002 x383003 x383004 x383005 x383006 x383007 x383008) else (none)))) else (none)) else (none)) else (stickfulref06_At.l0 k x1 x2 x3 (wrap64 (x10 + 1)) x383000 x383001 x383002 x383003 x383004 x383005 x383006 x383007 x383008)
end
def stickfulref06_At.f (k : Nat) (a0_0 a0_1 a0_2 a0_3 a0_4 a0_5 a0_6 a0_7 a0_8 : Int) (l1 : List Int) (l2 : List (S26)) (a3 : Int) : Option (Int × Int × Int × Int × Int × Int × Int × Int × Int) := stickfulref06_At.l0 k l1 l2 a3 0 a0_0 a0_1 a0_2 a0_3 a0_4 a0_5 a0_6 a0_7 a0_8
theorem stickfulref06_At.mono_l : ∀ k, (∀ y0 y1 y2 y3 y4 y5 y6 y7 y8 y9 y10 y11 y12, LeO (stickfulref06_At.l0 k y0 y1 y2 y3 y4 y5 y6 y7 y8 y9 y10 y11 y12) (stickfulref06_At.l0 (k + 1) y0 y1 y2 y3 y4 y5 y6 y7 y8 y9 y10 y11 y12)) ∧ (∀ y0 y1 y2 y3 y4 y5 y6 y7 y8 y9 y10 y11 y12 y13, LeO (stickfulref06_At.l1 k y0 y1 y2 y3 y4 y5 y6 y7 y8 y9 y10 y11 y12 y13) (stickfulref06_At.l1 (k + 1) y0 y1 y2 y3 y4 y5 y6 y7 y8 y9 y10 y11 y12 y13))
  | 0 => ⟨fun _ _ _ _ _ _ _ _ _ _ _ _ _ r h => by simp [stickfulref06_At.l0] at h, fun _ _ _ _ _ _ _ _ _ _ _ _ _ _ r h => by simp [stickfulref06_At.l1] at h⟩
  | k + 1 => by
    obtain ⟨ih0, ih1⟩ := stickfulref06_At.mono_l k
    refine ⟨?_, ?_⟩
    · intro y0 y1 y2 y3 y4 y5 y6 y7 y8 y9 y10 y11 y12
      unfold stickfulref06_At.l0
      repeat' first
      | (with_reducible exact ih0 _ _ _ _ _ _ _ _ _ _ _ _ _)
      | (with_reducible exact ih1 _ _ _ _ _ _ _ _ _ _ _ _ _ _)
      | (with_reducible exact LeO.refl _)
      | (with_reducible exact LeO.none _)
      | (with_reducible refine LeO.ite ?_ ?_)
      | (with_reducible refine LeO.bind ?_ (fun _ => ?_))
      | exact ih0 _ _ _ _ _ _ _ _ _ _ _ _ _
      | exact ih1 _ _ _ _ _ _ _ _ _ _ _ _ _ _
      | exact LeO.none _
      | refine LeO.ite ?_ ?_
      | refine LeO.bind ?_ (fun _ => ?_)
    · intro y0 y1 y2 y3 y4 y5 y6 y7 y8 y9 y10 y11 y12 y13
      unfold stickfulref06_At.l1
      repeat' first
      | (with_reducible exact ih0 _ _ _ _ _ _ _ _ _ _ _ _ _)
      | (with_reducible exact ih1 _ _ _ _ _ _ _ _ _ _ _ _ _ _)
      | (with_reducible exact LeO.refl _)
      | (with_reducible exact LeO.none _)
      | (with_reducible refine LeO.ite ?_ ?_)
      | (with_reducible refine LeO.bind ?_ (fun _ => ?_))
      | exact ih0 _ _ _ _ _ _ _ _ _ _ _ _ _
      | exact ih1 _ _ _ _ _ _ _ _ _ _ _ _ _ _
      | exact LeO.none _
      | refine LeO.ite ?_ ?_
      | refine LeO.bind ?_ (fun _ => ?_)
theorem stickfulref06_At.mono : ∀ a0 a1 a2 a3 a4 a5 a6 a7 a8 a9 a10 a11 k, LeO (stickfulref06_At.f k a0 a1 a2 a3 a4 a5 a6 a7 a8 a9 a10 a11) (stickfulref06_At.f (k + 1) a0 a1 a2 a3 a4 a5 a6 a7 a8 a9 a10 a11) := by
  intro a0 a1 a2 a3 a4 a5 a6 a7 a8 a9 a10 a11 k
  obtain ⟨ih0, ih1⟩ := stickfulref06_At.mono_l k
  unfold stickfulref06_At.f
  repeat' first
      | (with_reducible exact ih0 _ _ _ _ _ _ _ _ _ _ _ _ _)
      | (with_reducible exact ih1 _ _ _ _ _ _ _ _ _ _ _ _ _ _)
      | (with_reducible exact LeO.refl _)
      | (with_reducible exact LeO.none _)
      | (with_reducible refine LeO.ite ?_ ?_)
      | (with_reducible refine LeO.bind ?_ (fun _ => ?_))
      | exact ih0 _ _ _ _ _ _ _ _ _ _ _ _ _
      | exact ih1 _ _ _ _ _ _ _ _ _ _ _ _ _ _
      | exact LeO.none _
      | refine LeO.ite ?_ ?_
      | refine LeO.bind ?_ (fun _ => ?_)
def stickfulref06_At.T9 : Bool × List (List Nat × List Nat) := (true, [([], []), ([], []), ([], []), ([1, 2], [1, 2]), ([3], [3]), ([4], [4]), ([], []), ([0, 5, 6], [0, 5, 6]), ([7, 7, 0, 1, 2, 3, 4, 5, 6, 7], [7])])
def stickfulref06_At.B9 : List Nat := [0, 0, 0, 6, 14, 30, 0, 127, 255]
theorem stickfulref06_At.tab9 : rtab .any (opsOf Try.f34 9) = stickfulref06_At.T9 := by kernel_rfl
theorem stickfulref06_At.bits9 : waitsOk stickfulref06_At.T9.2 stickfulref06_At.B9 = true := by kernel_rfl
set_option maxHeartbeats 8000000 in
set_option maxRecDepth 100000 in
theorem stickfulref06_At.calls (k : Nat) (a0_0 a0_1 a0_2 a0_3 a0_4 a0_5 a0_6 a0_7 a0_8 : Int) (A1 : Option Addr) (c1 : Nat) (l1 : List Int) (A2 : Option Addr) (c2 : Nat) (l2 : List (S26)) (a3 r1 r2 r3 r4 r5 r6 r7 r8 r9 : Int) (w : World) (hr1 : Kd.C (Kd.int .i64) w A1 l1.length l1) (hc1 : l1.length ≤ c1) (hr2 : Kd.C k26 w A2 l2.length l2) (hc2 : l2.length ≤ c2) (h : stickfulref06_At.f k a0_0 a0_1 a0_2 a0_3 a0_4 a0_5 a0_6 a0_7 a0_8 l1 l2 a3 = some (r1, r2, r3, r4, r5, r6, r7, r8, r9)) :
    Calls Try.prog 34 #[.agg #[.int .u8 a0_0, .int .u8 a0_1, .int .u8 a0_2, .int .u8 a0_3, .int .i64 a0_4, .int .i64 a0_5, .int .i64 a0_6, .int .u8 a0_7, .int .i64 a0_8], .slice A1 l1.length c1, .slice A2 l2.length c2, .int .i64 a3] w fun e w' => e = .returned (.agg #[.int .u8 r1, .int .u8 r2, .int .u8 r3, .int .u8 r4, .int .i64 r5, .int .i64 r6, .int .i64 r7, .int .u8 r8, .int .i64 r9]) ∧ Below w.heap.size w w' := by
  have hu23 := Try.underlying23
  have hu26 := Try.underlying26
  have HR1 := Aside0.mk hr1
  have HC1 := Aside0.mk hc1
  clear hr1 hc1
  have HR2 := Aside0.mk hr2
  have HC2 := Aside0.mk hc2
  clear hr2 hc2
  have HB := Aside0.mk (Below.refl w.heap.size w)
  have H : (stickfulref06_At.l0 k l1 l2 a3 0 a0_0 a0_1 a0_2 a0_3 a0_4 a0_5 a0_6 a0_7 a0_8) = some (r1, r2, r3, r4, r5, r6, r7, r8, r9) := h
  clear h
  have H' := Aside0.mk H
  clear H
  go_enter Try.func34, Try.ntmps34
  go_wp2_with (first | ((with_reducible refine gate_dst (N := 4) rfl ?_); refine box_event ?hg (N := 4) ?hd (cs := #[.int .u8 a0_0, .int .u8 a0_1, .int .u8 a0_2, .int .u8 a0_3, .int .i64 a0_4, .int .i64 a0_5, .int .i64 a0_6, .int .u8 a0_7, .int .i64 a0_8]) (t := 23) ?hr ?_; (case hd => rfl); (case hg => rfl); (case hr => first | (go_simp; done) | (go_simp; rfl)); intro gb380 hg w5 hbox hb; have BK380 := Aside0.mk (hbox); have GW380 := bge HB hg; have GE380 := bge HB hg; replace HB := bh HB hb; clear hb hbox hg) | ((with_reducible refine gate_dst (N := 8) rfl ?_); refine box_event ?hg (N := 8) ?hd (cs := #[.int .u8 0, .int .u8 0, .int .u8 0, .int .u8 0, .int .i64 0, .int .i64 0, .int .i64 0, .int .u8 0, .int .i64 0]) (t := 23) ?hr ?_; (case hd => rfl); (case hg => rfl); (case hr => first | (go_simp; done) | (go_simp; rfl)); intro gb381 hg w6 hbox hb; have BK381 := Aside0.mk (hbox); have GW381 := bge HB hg; have GE381 := bge HB hg; replace HB := bh HB hb; have NB380_381 := nbl BK380 hg; have NB381_380 := nbg BK380 hg; replace BK380 := bb BK380 hb; clear hb hbox hg; have hnb7 := NB380_381.out; have hnc7 := NB381_380.out; obtain ⟨hcz8_0, hcz8_1, hcz8_2, hcz8_3, hcz8_4, hcz8_5, hcz8_6, hcz8_7, hcz8_8⟩ := cz9 BK380; obtain ⟨hfz8_0, hfz8_1, hfz8_2, hfz8_3, hfz8_4, hfz8_5, hfz8_6, hfz8_7, hfz8_8⟩ := fz9 BK380) | ((with_reducible refine gate_dst (N := 9) rfl ?_); refine box_event ?hg (N := 9) ?hd (cs := #[.int .u8 0, .int .u8 0, .int .u8 0, .int .u8 0, .int .i64 0, .int .i64 0, .int .i64 0, .int .u8 0, .int .i64 0]) (t := 23) ?hr ?_; (case hd => rfl); (case hg => rfl); (case hr => first | (go_simp; done) | (go_simp; rfl)); intro gb382 hg w9 hbox hb; have BK382 := Aside0.mk (hbox); have GW382 := bge HB hg; have GE382 := bge HB hg; replace HB := bh HB hb; have NB380_382 := nbl BK380 hg; have NB382_380 := nbg BK380 hg; replace BK380 := bb BK380 hb; have NB381_382 := nbl BK381 hg; have NB382_381 := nbg BK381 hg; replace BK381 := bb BK381 hb; clear hb hbox hg; have hnb10 := NB382_380.out; have hnc10 := NB380_382.out; have hnb11 := NB382_381.out; have hnc11 := NB381_382.out; obtain ⟨hcz12_0, hcz12_1, hcz12_2, hcz12_3, hcz12_4, hcz12_5, hcz12_6, hcz12_7, hcz12_8⟩ := cz9 BK382; obtain ⟨hfz12_0, hfz12_1, hfz12_2, hfz12_3, hfz12_4, hfz12_5, hfz12_6, hfz12_7, hfz12_8⟩ := fz9 BK382))
  go_loopg [10] k (fun kq v10 w' => ∃ (x10_1 x383000_1 x383001_1 x383002_1 x383003_1 x383004_1 x383005_1 x383006_1 x383007_1 x383008_1 : Int), v10 = .int .i64 x10_1 ∧ Aside0 (stickfulref06_At.l0 kq l1 l2 a3 x10_1 x383000_1 x383001_1 x383002_1 x383003_1 x383004_1 x383005_1 x383006_1 x383007_1 x383008_1 = some (r1, r2, r3, r4, r5, r6, r7, r8, r9)) ∧ Aside0 (kq ≤ k) ∧ Aside0 (w'.heap[gb380]? = some (.cells #[.int .u8 a0_0, .int .u8 a0_1, .int .u8 a0_2, .int .u8 a0_3, .int .i64 a0_4, .int .i64 a0_5, .int .i64 a0_6, .int .u8 a0_7, .int .i64 a0_8] 23 (0, 0))) ∧ Aside0 (w'.heap[gb381]? = some (.cells #[.int .u8 0, .int .u8 0, .int .u8 0, .int .u8 0, .int .i64 0, .int .i64 0, .int .i64 0, .int .u8 0, .int .i64 0] 23 (0, 0))) ∧ Aside0 (w'.heap[gb382]? = some (.cells #[.int .u8 x383000_1, .int .u8 x383001_1, .int .u8 x383002_1, .int .u8 x383003_1, .int .i64 x383004_1, .int .i64 x383005_1, .int .i64 x383006_1, .int .u8 x383007_1, .int .i64 x383008_1] 23 (0, 0))) ∧ Aside0 (Below w.heap.size w w'))
  case atStart => exact ⟨(0), (a0_0), (a0_1), (a0_2), (a0_3), (a0_4), (a0_5), (a0_6), (a0_7), (a0_8), (by first | rfl | (simp; done) | (simp [*]; done)), H', ⟨Nat.le_refl _⟩, ⟨by (with_reducible repeat (first | refine blk_drewN ?_ _ | refine blk_drew ?_ | refine blk_alloc ?_ _)); refine blk_far ?_ NB380_382.out _; (with_reducible repeat (first | refine blk_drewN ?_ _ | refine blk_drew ?_ | refine blk_alloc ?_ _)); refine blk_far ?_ NB380_382.out _; (with_reducible repeat (first | refine blk_drewN ?_ _ | refine blk_drew ?_ | refine blk_alloc ?_ _)); refine blk_far ?_ NB380_382.out _; (with_reducible repeat (first | refine blk_drewN ?_ _ | refine blk_drew ?_ | refine blk_alloc ?_ _)); refine blk_far ?_ NB380_382.out _; (with_reducible repeat (first | refine blk_drewN ?_ _ | refine blk_drew ?_ | refine blk_alloc ?_ _)); refine blk_far ?_ NB380_382.out _; (with_reducible repeat (first | refine blk_drewN ?_ _ | refine blk_drew ?_ | refine blk_alloc ?_ _)); refine blk_far ?_ NB380_382.out _; (with_reducible repeat (first | refine blk_drewN ?_ _ | refine blk_drew ?_ | refine blk_alloc ?_ _)); refine blk_far ?_ NB380_382.out _; (with_reducible repeat (first | refine blk_drewN ?_ _ | refine blk_drew ?_ | refine blk_alloc ?_ _)); refine blk_far ?_ NB380_382.out _; (with_reducible repeat (first | refine blk_drewN ?_ _ | refine blk_drew ?_ | refine blk_alloc ?_ _)); refine blk_far ?_ NB380_382.out _; (with_reducible repeat (first | refine blk_drewN ?_ _ | refine blk_drew ?_ | refine blk_alloc ?_ _)); exact BK380.out⟩, ⟨by (with_reducible repeat (first | refine blk_drewN ?_ _ | refine blk_drew ?_ | refine blk_alloc ?_ _)); refine blk_far ?_ NB381_382.out _; (with_reducible repeat (first | refine blk_drewN ?_ _ | refine blk_drew ?_ | refine blk_alloc ?_ _)); refine blk_far ?_ NB381_382.out _; (with_reducible repeat (first | refine blk_drewN ?_ _ | refine blk_drew ?_ | refine blk_alloc ?_ _)); refine blk_far ?_ NB381_382.out _; (with_reducible repeat (first | refine blk_drewN ?_ _ | refine blk_drew ?_ | refine blk_alloc ?_ _)); refine blk_far ?_ NB381_382.out _; (with_reducible repeat (first | refine blk_drewN ?_ _ | refine blk_drew ?_ | refine blk_alloc ?_ _)); refine blk_far ?_ NB381_382.out _; (with_reducible repeat (first | refine blk_drewN ?_ _ | refine blk_drew ?_ | refine blk_alloc ?_ _)); refine blk_far ?_ NB381_382.out _; (with_reducible repeat (first | refine blk_drewN ?_ _ | refine blk_drew ?_ | refine blk_alloc ?_ _)); refine blk_far ?_ NB381_382.out _; (with_reducible repeat (first | refine blk_drewN ?_ _ | refine blk_drew ?_ | refine blk_alloc ?_ _)); refine blk_far ?_ NB381_382.out _; (with_reducible repeat (first | refine blk_drewN ?_ _ | refine blk_drew ?_ | refine blk_alloc ?_ _)); refine blk_far ?_ NB381_382.out _; (with_reducible repeat (first | refine blk_drewN ?_ _ | refine blk_drew ?_ | refine blk_alloc ?_ _)); exact BK381.out⟩, ⟨by (with_reducible repeat (first | refine blk_drewN ?_ _ | refine blk_drew ?_ | refine blk_alloc ?_ _)); refine blk_put (cs := #[.int .u8 a0_0, .int .u8 a0_1, .int .u8 a0_2, .int .u8 a0_3, .int .i64 a0_4, .int .i64 a0_5, .int .i64 a0_6, .int .u8 a0_7, .int .i64 0]) ?_ 8 _ rfl; (with_reducible repeat (first | refine blk_drewN ?_ _ | refine blk_drew ?_ | refine blk_alloc ?_ _)); refine blk_put (cs := #[.int .u8 a0_0, .int .u8 a0_1, .int .u8 a0_2, .int .u8 a0_3, .int .i64 a0_4, .int .i64 a0_5, .int .i64 a0_6, .int .u8 0, .int .i64 0]) ?_ 7 _ rfl; (with_reducible repeat (first | refine blk_drewN ?_ _ | refine blk_drew ?_ | refine blk_alloc ?_ _)); refine blk_put (cs := #[.int .u8 a0_0, .int .u8 a0_1, .int .u8 a0_2, .int .u8 a0_3, .int .i64 a0_4, .int .i64 a0_5, .int .i64 0, .int .u8 0, .int .i64 0]) ?_ 6 _ rfl; (with_reducible repeat (first | refine blk_drewN ?_ _ | refine blk_drew ?_ | refine blk_alloc ?_ _)); refine blk_put (cs := #[.int .u8 a0_0, .int .u8 a0_1, .int .u8 a0_2, .int .u8 a0_3, .int .i64 a0_4, .int .i64 0, .int .i64 0, .int .u8 0, .int .i64 0]) ?_ 5 _ rfl; (with_reducible repeat (first | refine blk_drewN ?_ _ | refine blk_drew ?_ | refine blk_alloc ?_ _)); refine blk_put (cs := #[.int .u8 a0_0, .int .u8 a0_1, .int .u8 a0_2, .int .u8 a0_3, .int .i64 0, .int .i64 0, .int .i64 0, .int .u8 0, .int .i64 0]) ?_ 4 _ rfl; (with_reducible repeat (first | refine blk_drewN ?_ _ | refine blk_drew ?_ | refine blk_alloc ?_ _)); refine blk_put (cs := #[.int .u8 a0_0, .int .u8 a0_1, .int .u8 a0_2, .int .u8 0, .int .i64 0, .int .i64 0, .int .i64 0, .int .u8 0, .int .i64 0]) ?_ 3 _ rfl; (with_reducible repeat (first | refine blk_drewN ?_ _ | refine blk_drew ?_ | refine blk_alloc ?_ _)); refine blk_put (cs := #[.int .u8 a0_0, .int .u8 a0_1, .int .u8 0, .int .u8 0, .int .i64 0, .int .i64 0, .int .i64 0, .int .u8 0, .int .i64 0]) ?_ 2 _ rfl; (with_reducible repeat (first | refine blk_drewN ?_ _ | refine blk_drew ?_ | refine blk_alloc ?_ _)); refine blk_put (cs := #[.int .u8 a0_0, .int .u8 0, .int .u8 0, .int .u8 0, .int .i64 0, .int .i64 0, .int .i64 0, .int .u8 0, .int .i64 0]) ?_ 1 _ rfl; (with_reducible repeat (first | refine blk_drewN ?_ _ | refine blk_drew ?_ | refine blk_alloc ?_ _)); refine blk_put (cs := #[.int .u8 0, .int .u8 0, .int .u8 0, .int .u8 0, .int .i64 0, .int .i64 0, .int .i64 0, .int .u8 0, .int .i64 0]) ?_ 0 _ rfl; (with_reducible repeat (first | refine blk_drewN ?_ _ | refine blk_drew ?_ | refine blk_alloc ?_ _)); exact BK382.out⟩, ⟨by repeat (first | (with_reducible first | exact HB.out | apply below_alloc | apply pw_below_drewN | apply below_drew1 | refine below_set ?_ GE380.out | refine below_set ?_ GE381.out | refine below_set ?_ GE382.out) | exact HB.out)⟩⟩
  case round =>
    clear H'
    try clear c1
    try clear c2
    try clear p2
    try clear c3
    try clear c7
    try clear c10
    try clear c11
    try clear hcz12_0
    try clear hcz12_1
    try clear hcz12_2
    try clear hcz12_3
    try clear hcz12_4
    try clear hcz12_5
    try clear hcz12_6
    try clear hcz12_7
    try clear hcz12_8
    try clear hcz8_0
    try clear hcz8_1
    try clear hcz8_2
    try clear hcz8_3
    try clear hcz8_4
    try clear hcz8_5
    try clear hcz8_6
    try clear hcz8_7
    try clear hcz8_8
    try clear hfz12_0
    try clear hfz12_1
    try clear hfz12_2
    try clear hfz12_3
    try clear hfz12_4
    try clear hfz12_5
    try clear hfz12_6
    try clear hfz12_7
    try clear hfz12_8
    try clear hfz8_0
    try clear hfz8_1
    try clear hfz8_2
    try clear hfz8_3
    try clear hfz8_4
    try clear hfz8_5
    try clear hfz8_6
    try clear hfz8_7
    try clear hfz8_8
    obtain ⟨x10_1, x383000_1, x383001_1, x383002_1, x383003_1, x383004_1, x383005_1, x383006_1, x383007_1, x383008_1, rfl, HA, HK1, BK380, BK381, BK382, HB⟩ := hrel
    cases gk with
    | zero => exact absurd HA.out (by simp [stickfulref06_At.l0])
    | succ k1 =>
      have H := HA.out
      clear HA
      simp only [stickfulref06_At.l0] at H
      by_cases c13 : x10_1 < 8
      · rw [if_pos c13] at H
        have c13b0 : decide (x10_1 < 8) = true := decide_eq_true c13
        clear c13
        have H' := Aside0.mk H
        clear H
        go_wp2
        go_loopg [11] k1 (fun kq v11 w' => ∃ (x11_2 : Int), v11 = .int .i64 x11_2 ∧ Aside0 (stickfulref06_At.l1 kq l1 l2 a3 x10_1 x11_2 x383000_1 x383001_1 x383002_1 x383003_1 x383004_1 x383005_1 x383006_1 x383007_1 x383008_1 = some (r1, r2, r3, r4, r5, r6, r7, r8, r9)) ∧ Aside0 (kq ≤ k1) ∧ Aside0 (w'.heap[gb380]? = some (.cells #[.int .u8 a0_0, .int .u8 a0_1, .int .u8 a0_2, .int .u8 a0_3, .int .i64 a0_4, .int .i64 a0_5, .int .i64 a0_6, .int .u8 a0_7, .int .i64 a0_8] 23 (0, 0))) ∧ Aside0 (w'.heap[gb381]? = some (.cells #[.int .u8 0, .int .u8 0, .int .u8 0, .int .u8 0, .int .i64 0, .int .i64 0, .int .i64 0, .int .u8 0, .int .i64 0] 23 (0, 0))) ∧ Aside0 (w'.heap[gb382]? = some (.cells #[.int .u8 x383000_1, .int .u8 x383001_1, .int .u8 x383002_1, .int .u8 x383003_1, .int .i64 x383004_1, .int .i64 x383005_1, .int .i64 x383006_1, .int .u8 x383007_1, .int .i64 x383008_1] 23 (0, 0))) ∧ Aside0 (Below w.heap.size w w'))
        case atStart => exact ⟨(a3), (by first | rfl | (simp; done) | (simp [*]; done)), H', ⟨Nat.le_refl _⟩, ⟨by (with_reducible repeat (first | refine blk_drewN ?_ _ | refine blk_drew ?_ | refine blk_alloc ?_ _)); exact BK380.out⟩, ⟨by (with_reducible repeat (first | refine blk_drewN ?_ _ | refine blk_drew ?_ | refine blk_alloc ?_ _)); exact BK381.out⟩, ⟨by (with_reducible repeat (first | refine blk_drewN ?_ _ | refine blk_drew ?_ | refine blk_alloc ?_ _)); exact BK382.out⟩, ⟨by repeat (first | (with_reducible first | exact HB.out | apply below_alloc | apply pw_below_drewN | apply below_drew1 | refine below_set ?_ GE380.out | refine below_set ?_ GE381.out | refine below_set ?_ GE382.out) | exact HB.out)⟩⟩
        case round =>
          clear H'
          try clear c1
          try clear c2
          try clear p2
          try clear c3
          try clear c7
          try clear c10
          try clear c11
          try clear c13
          try clear c13b0
          try clear hcz12_0
          try clear hcz12_1
          try clear hcz12_2
          try clear hcz12_3
          try clear hcz12_4
          try clear hcz12_5
          try clear hcz12_6
          try clear hcz12_7
          try clear hcz12_8
          try clear hcz8_0
          try clear hcz8_1
          try clear hcz8_2
          try clear hcz8_3
          try clear hcz8_4
          try clear hcz8_5
          try clear hcz8_6
          try clear hcz8_7
          try clear hcz8_8
          try clear hfz12_0
          try clear hfz12_1
          try clear hfz12_2
          try clear hfz12_3
          try clear hfz12_4
          try clear hfz12_5
          try clear hfz12_6
          try clear hfz12_7
          try clear hfz12_8
          try clear hfz8_0
          try clear hfz8_1
          try clear hfz8_2
          try clear hfz8_3
          try clear hfz8_4
          try clear hfz8_5
          try clear hfz8_6
          try clear hfz8_7
          try clear hfz8_8
          try clear p2
          obtain ⟨x11_2, rfl, HA, HK2, BK380, BK381, BK382, HB⟩ := hrel
          cases gk with
          | zero => exact absurd HA.out (by simp [stickfulref06_At.l1])
          | succ k2 =>
            have H := HA.out
            clear HA
            simp only [stickfulref06_At.l1] at H
            by_cases c14 : x11_2 ≥ 0
            · rw [if_pos c14] at H
              have c14b0 : decide (0 ≤ x11_2) = true := decide_eq_true c14
              clear c14
              by_cases c15 : 0 ≤ x11_2
              · rw [if_pos c15] at H
                have c15b0 : decide (0 ≤ x11_2) = true := decide_eq_true c15
                clear c15
                by_cases c16 : x11_2 < (l2.length : Int)
                · rw [if_pos c16] at H
                  have c16b0 : decide (x11_2 < (l2.length : Int)) = true := decide_eq_true c16
                  clear c16
                  replace H := Option.bind_eq_some_iff.mp H
                  obtain ⟨t384, A170, H⟩ := H
                  replace H : (if t384 = true then ((stickfulref06_One.f x383000_1 x383001_1 x383002_1 x383003_1 x383004_1 x383005_1 x383006_1 x383007_1 x383008_1 ((rd_T26 l2 x11_2).f1.f0) ((rd_T26 l2 x11_2).f1.f1) ((rd_T26 l2 x11_2).f1.f2) ((rd_T26 l2 x11_2).f1.f3) ((rd_T26 l2 x11_2).f1.f4) ((rd_T26 l2 x11_2).f1.f5) ((rd_T26 l2 x11_2).f1.f6) ((rd_T26 l2 x11_2).f1.f7) ((rd_T26 l2 x11_2).f1.f8) x10_1).bind fun bt386 => (stickfulref06_At.l0 k2 l1 l2 a3 (wrap64 (x10_1 + 1)) bt386.1 bt386.2.1 bt386.2.2.1 bt386.2.2.2.1 bt386.2.2.2.2.1 bt386.2.2.2.2.2.1 bt386.2.2.2.2.2.2.1 bt386.2.2.2.2.2.2.2.1 bt386.2.2.2.2.2.2.2.2)) else (if x11_2 < (l1.length : Int) then (stickfulref06_At.l1 k2 l1 l2 a3 x10_1 (rd l1 x11_2) x383000_1 x383001_1 x383002_1 x383003_1 x383004_1 x383005_1 x383006_1 x383007_1 x383008_1) else (none))) = some (r1, r2, r3, r4, r5, r6, r7, r8, r9) := H
                  have A17 := Aside0.mk A170
                  clear A170
                  by_cases c18 : t384 = true
                  · subst c18
                    have H1 : ((stickfulref06_One.f x383000_1 x383001_1 x383002_1 x383003_1 x383004_1 x383005_1 x383006_1 x383007_1 x383008_1 ((rd_T26 l2 x11_2).f1.f0) ((rd_T26 l2 x11_2).f1.f1) ((rd_T26 l2 x11_2).f1.f2) ((rd_T26 l2 x11_2).f1.f3) ((rd_T26 l2 x11_2).f1.f4) ((rd_T26 l2 x11_2).f1.f5) ((rd_T26 l2 x11_2).f1.f6) ((rd_T26 l2 x11_2).f1.f7) ((rd_T26 l2 x11_2).f1.f8) x10_1).bind fun bt386 => (stickfulref06_At.l0 k2 l1 l2 a3 (wrap64 (x10_1 + 1)) bt386.1 bt386.2.1 bt386.2.2.1 bt386.2.2.2.1 bt386.2.2.2.2.1 bt386.2.2.2.2.2.1 bt386.2.2.2.2.2.2.1 bt386.2.2.2.2.2.2.2.1 bt386.2.2.2.2.2.2.2.2)) = some (r1, r2, r3, r4, r5, r6, r7, r8, r9) := by rw [if_pos rfl] at H; exact H
                    clear H
                    have H := H1
                    clear H1
                    replace H := Option.bind_eq_some_iff.mp H
                    obtain ⟨⟨t386, t387, t388, t389, t390, t391, t392, t393, t394⟩, A190, H⟩ := H
                    replace H : (stickfulref06_At.l0 k2 l1 l2 a3 (wrap64 (x10_1 + 1)) t386 t387 t388 t389 t390 t391 t392 t393 t394) = some (r1, r2, r3, r4, r5, r6, r7, r8, r9) := H
                    have A19 := Aside0.mk A190
                    clear A190
                    have H' := Aside0.mk H
                    clear H
                    have p383 : 0 ≤ (x11_2 : Int) := of_decide_eq_true (by first | (with_reducible assumption) | assumption)
                    have q383 : x11_2 < (l2.length : Int) := of_decide_eq_true (by first | (with_reducible assumption) | assumption)
                    obtain ⟨ad383, e383, hx383_0, hx383_1, hx383_2, hx383_3, hx383_4, hx383_5, hx383_6, hx383_7, hx383_8, hx383_9⟩ := at_T26 HR2.out x11_2 p383 q383
                    cases e383
                    replace hx383_0 := (HB.out.cell (World.block_lt_of_cell? w _ hx383_0)).trans hx383_0
                    replace hx383_1 := (HB.out.cell (World.block_lt_of_cell? w _ hx383_1)).trans hx383_1
                    replace hx383_2 := (HB.out.cell (World.block_lt_of_cell? w _ hx383_2)).trans hx383_2
                    replace hx383_3 := (HB.out.cell (World.block_lt_of_cell? w _ hx383_3)).trans hx383_3
                    replace hx383_4 := (HB.out.cell (World.block_lt_of_cell? w _ hx383_4)).trans hx383_4
                    replace hx383_5 := (HB.out.cell (World.block_lt_of_cell? w _ hx383_5)).trans hx383_5
                    replace hx383_6 := (HB.out.cell (World.block_lt_of_cell? w _ hx383_6)).trans hx383_6
                    replace hx383_7 := (HB.out.cell (World.block_lt_of_cell? w _ hx383_7)).trans hx383_7
                    replace hx383_8 := (HB.out.cell (World.block_lt_of_cell? w _ hx383_8)).trans hx383_8
                    replace hx383_9 := (HB.out.cell (World.block_lt_of_cell? w _ hx383_9)).trans hx383_9
                    replace p383 := eq_true p383
                    replace q383 := eq_true q383
                    try go_wp2_with (first | (go_at_call 31; (with_reducible refine (stickfulref06_Says.calls ((rd_T26 l2 x11_2).f0) ((rd_T26 l2 x11_2).f1.f0) ((rd_T26 l2 x11_2).f1.f1) ((rd_T26 l2 x11_2).f1.f2) ((rd_T26 l2 x11_2).f1.f3) ((rd_T26 l2 x11_2).f1.f4) ((rd_T26 l2 x11_2).f1.f5) ((rd_T26 l2 x11_2).f1.f6) ((rd_T26 l2 x11_2).f1.f7) ((rd_T26 l2 x11_2).f1.f8) x10_1 true _ A17.out).mono ?_); rintro e w20 ⟨rfl, hb⟩; replace BK380 := bb BK380 hb; replace BK381 := bb BK381 hb; replace BK382 := bb BK382 hb; replace HB := bh HB hb; (try clear hb); (try clear hb2); (try clear hk); (try clear hi)))
                    replace BK380 := Aside0.mk (blk_drew BK380.out)
                    replace BK381 := Aside0.mk (blk_drew BK381.out)
                    replace BK382 := Aside0.mk (blk_drew BK382.out)
                    replace HB := Aside0.mk (below_drew1 HB.out)
                    have p385 : 0 ≤ (x11_2 : Int) := of_decide_eq_true (by first | (with_reducible assumption) | assumption)
                    have q385 : x11_2 < (l2.length : Int) := of_decide_eq_true (by first | (with_reducible assumption) | assumption)
                    obtain ⟨ad385, e385, hx385_0, hx385_1, hx385_2, hx385_3, hx385_4, hx385_5, hx385_6, hx385_7, hx385_8, hx385_9⟩ := at_T26 HR2.out x11_2 p385 q385
                    have hw385_9 := hx385_9
                    have hw385_8 := hx385_8
                    have hw385_7 := hx385_7
                    have hw385_6 := hx385_6
                    have hw385_5 := hx385_5
                    have hw385_4 := hx385_4
                    have hw385_3 := hx385_3
                    have hw385_2 := hx385_2
                    have hw385_1 := hx385_1
                    have hw385_0 := hx385_0
                    obtain rfl : ad383 = ad385 := (by injection e385)
                    replace hx385_0 := (HB.out.cell (World.block_lt_of_cell? w _ hx385_0)).trans hx385_0
                    replace hx385_1 := (HB.out.cell (World.block_lt_of_cell? w _ hx385_1)).trans hx385_1
                    replace hx385_2 := (HB.out.cell (World.block_lt_of_cell? w _ hx385_2)).trans hx385_2
                    replace hx385_3 := (HB.out.cell (World.block_lt_of_cell? w _ hx385_3)).trans hx385_3
                    replace hx385_4 := (HB.out.cell (World.block_lt_of_cell? w _ hx385_4)).trans hx385_4
                    replace hx385_5 := (HB.out.cell (World.block_lt_of_cell? w _ hx385_5)).trans hx385_5
                    replace hx385_6 := (HB.out.cell (World.block_lt_of_cell? w _ hx385_6)).trans hx385_6
                    replace hx385_7 := (HB.out.cell (World.block_lt_of_cell? w _ hx385_7)).trans hx385_7
                    replace hx385_8 := (HB.out.cell (World.block_lt_of_cell? w _ hx385_8)).trans hx385_8
                    replace hx385_9 := (HB.out.cell (World.block_lt_of_cell? w _ hx385_9)).trans hx385_9
                    replace p385 := eq_true p385
                    replace q385 := eq_true q385
                    refine start_ (n := 9) (S := fun w' => w'.cell? ⟨gb382, 0, none⟩ = some (.int .u8 x383000_1) ∧ w'.cell? ⟨gb382, 1, none⟩ = some (.int .u8 x383001_1) ∧ w'.cell? ⟨gb382, 2, none⟩ = some (.int .u8 x383002_1) ∧ w'.cell? ⟨gb382, 3, none⟩ = some (.int .u8 x383003_1) ∧ w'.cell? ⟨gb382, 4, none⟩ = some (.int .i64 x383004_1) ∧ w'.cell? ⟨gb382, 5, none⟩ = some (.int .i64 x383005_1) ∧ w'.cell? ⟨gb382, 6, none⟩ = some (.int .i64 x383006_1) ∧ w'.cell? ⟨gb382, 7, none⟩ = some (.int .u8 x383007_1) ∧ w'.cell? ⟨gb382, 8, none⟩ = some (.int .i64 x383008_1) ∧ w'.cell? (ad383.add ((x11_2).toNat * 10)) = some (.int .u16 ((rd_T26 l2 x11_2).f0)) ∧ w'.cell? ⟨(ad383.add ((x11_2).toNat * 10)).block, (ad383.add ((x11_2).toNat * 10)).off + 1, none⟩ = some (.int .u8 ((rd_T26 l2 x11_2).f1.f0)) ∧ w'.cell? ⟨(ad383.add ((x11_2).toNat * 10)).block, (ad383.add ((x11_2).toNat * 10)).off + 2, none⟩ = some (.int .u8 ((rd_T26 l2 x11_2).f1.f1)) ∧ w'.cell? ⟨(ad383.add ((x11_2).toNat * 10)).block, (ad383.add ((x11_2).toNat * 10)).off + 3, none⟩ = some (.int .u8 ((rd_T26 l2 x11_2).f1.f2)) ∧ w'.cell? ⟨(ad383.add ((x11_2).toNat * 10)).block, (ad383.add ((x11_2).toNat * 10)).off + 4, none⟩ = some (.int .u8 ((rd_T26 l2 x11_2).f1.f3)) ∧ w'.cell? ⟨(ad383.add ((x11_2).toNat * 10)).block, (ad383.add ((x11_2).toNat * 10)).off + 5, none⟩ = some (.int .i64 ((rd_T26 l2 x11_2).f1.f4)) ∧ w'.cell? ⟨(ad383.add ((x11_2).toNat * 10)).block, (ad383.add ((x11_2).toNat * 10)).off + 6, none⟩ = some (.int .i64 ((rd_T26 l2 x11_2).f1.f5)) ∧ w'.cell? ⟨(ad383.add ((x11_2).toNat * 10)).block, (ad383.add ((x11_2).toNat * 10)).off + 7, none⟩ = some (.int .i64 ((rd_T26 l2 x11_2).f1.f6)) ∧ w'.cell? ⟨(ad383.add ((x11_2).toNat * 10)).block, (ad383.add ((x11_2).toNat * 10)).off + 8, none⟩ = some (.int .u8 ((rd_T26 l2 x11_2).f1.f7)) ∧ w'.cell? ⟨(ad383.add ((x11_2).toNat * 10)).block, (ad383.add ((x11_2).toNat * 10)).off + 9, none⟩ = some (.int .i64 ((rd_T26 l2 x11_2).f1.f8))) (ds := [8]) #[false, false, false, false, false, false, false, false, false] (by kernel_rfl) rfl rfl ⟨bc BK382 0, bc BK382 1, bc BK382 2, bc BK382 3, bc BK382 4, bc BK382 5, bc BK382 6, bc BK382 7, bc BK382 8, ((HB.out.cell (World.block_lt_of_cell? w _ hw385_0)).trans hw385_0), ((HB.out.cell (World.block_lt_of_cell? w _ hw385_1)).trans hw385_1), ((HB.out.cell (World.block_lt_of_cell? w _ hw385_2)).trans hw385_2), ((HB.out.cell (World.block_lt_of_cell? w _ hw385_3)).trans hw385_3), ((HB.out.cell (World.block_lt_of_cell? w _ hw385_4)).trans hw385_4), ((HB.out.cell (World.block_lt_of_cell? w _ hw385_5)).trans hw385_5), ((HB.out.cell (World.block_lt_of_cell? w _ hw385_6)).trans hw385_6), ((HB.out.cell (World.block_lt_of_cell? w _ hw385_7)).trans hw385_7), ((HB.out.cell (World.block_lt_of_cell? w _ hw385_8)).trans hw385_8), ((HB.out.cell (World.block_lt_of_cell? w _ hw385_9)).trans hw385_9)⟩ (fun hHeld => ?_); refine with_tabW stickfulref06_At.tab9 stickfulref06_At.bits9 (fun HT_ HW_ => ?_)
                    generalize w20.drew = w21 at BK380 BK381 BK382 HB hx385_0 hx385_1 hx385_2 hx385_3 hx385_4 hx385_5 hx385_6 hx385_7 hx385_8 hx385_9 hHeld ⊢
                    refine pure_ (i := 1) (N := some 36) (v := ?_) (a' := ?_) #[false, true, false, false, false, false, false, false, false] rfl rfl (any_of HT_.out (by kernel_rfl)) (fun _ _ _ h => h) (Or.inl ⟨by rfl, ?_⟩) ?_ ?_
                    rotate_left
                    · intro w'
                      go_simp
                      with_reducible rfl
                    rotate_left
                    · simp only [Act.put, List.setIfInBounds_toArray, List.set_cons_zero, List.set_cons_succ, i64_w, i32_w]
                      rfl
                    refine pure_ (i := 2) (N := some 37) (v := ?_) (a' := ?_) #[false, true, true, false, false, false, false, false, false] rfl rfl (any_of HT_.out (by kernel_rfl)) (fun _ _ _ h => h) (Or.inl ⟨by rfl, ?_⟩) ?_ ?_
                    rotate_left
                    · intro w'
                      go_simp
                      with_reducible rfl
                    rotate_left
                    · simp only [Act.put, List.setIfInBounds_toArray, List.set_cons_zero, List.set_cons_succ, i64_w, i32_w]
                      rfl
                    refine pure_ (i := 3) (N := some 38) (v := ?_) (a' := ?_) #[false, true, true, true, false, false, false, false, false] rfl rfl (any_of HT_.out (by kernel_rfl)) (fun _ _ _ h => h) (Or.inl ⟨by rfl, ?_⟩) ?_ ?_
                    rotate_left
                    · intro w'
                      go_simp
                      with_reducible rfl
                    rotate_left
                    · simp only [Act.put, List.setIfInBounds_toArray, List.set_cons_zero, List.set_cons_succ, i64_w, i32_w]
                      rfl
                    refine pure_ (i := 4) (N := some 39) (v := ?_) (a' := ?_) #[false, true, true, true, true, false, false, false, false] rfl rfl (any_of HT_.out (by kernel_rfl)) (fun _ _ _ h => h) (Or.inl ⟨by rfl, ?_⟩) ?_ ?_
                    rotate_left
                    · intro w'
                      go_simp
                      with_reducible rfl
                    rotate_left
                    · simp only [Act.put, List.setIfInBounds_toArray, List.set_cons_zero, List.set_cons_succ, i64_w, i32_w]
                      rfl
                    refine pure_ (i := 6) (N := some 41) (v := ?_) (a' := ?_) #[false, true, true, true, true, false, true, false, false] rfl rfl (any_of HT_.out (by kernel_rfl)) (fun _ _ _ h => h) (Or.inl ⟨by rfl, ?_⟩) ?_ ?_
                    rotate_left
                    · intro w'
                      go_simp
                      with_reducible rfl
                    rotate_left
                    · simp only [Act.put, List.setIfInBounds_toArray, List.set_cons_zero, List.set_cons_succ, i64_w, i32_w]
                      rfl
                    refine take_ (i := 0) (N := some 35) (v := ?_) (a' := ?_) #[true, true, true, true, true, false, true, false, false] rfl rfl (take_ofW HT_.out HW_.out (by kernel_rfl)) (fun _ _ _ h => h) (Or.inl ⟨by rfl, ?_⟩) hHeld ?_ ?_
                    rotate_left
                    · rintro w' ⟨s0, s1, s2, s3, s4, s5, s6, s7, s8, s9, s10, s11, s12, s13, s14, s15, s16, s17, s18⟩
                      go_simp
                      with_reducible rfl
                    rotate_left
                    · simp only [Act.put, List.setIfInBounds_toArray, List.set_cons_zero, List.set_cons_succ, i64_w, i32_w]
                      rfl
                    refine take_ (i := 5) (N := some 40) (v := ?_) (a' := ?_) #[true, true, true, true, true, true, true, false, false] rfl rfl (take_ofW HT_.out HW_.out (by kernel_rfl)) (fun _ _ _ h => h) (Or.inl ⟨by rfl, ?_⟩) hHeld ?_ ?_
                    rotate_left
                    · rintro w' ⟨s0, s1, s2, s3, s4, s5, s6, s7, s8, s9, s10, s11, s12, s13, s14, s15, s16, s17, s18⟩
                      go_simp
                      with_reducible rfl
                    rotate_left
                    · simp only [Act.put, List.setIfInBounds_toArray, List.set_cons_zero, List.set_cons_succ, i64_w, i32_w]
                      rfl
                    refine one_ (i := 7) (N := some 42) #[true, true, true, true, true, true, true, true, false] rfl rfl (one_of HT_.out (by kernel_rfl)) (by decide) (fun K hK => ?_)
                    refine goes_ Try.func32 (by kernel_rfl) rfl #[.agg #[.int .u8 x383000_1, .int .u8 x383001_1, .int .u8 x383002_1, .int .u8 x383003_1, .int .i64 x383004_1, .int .i64 x383005_1, .int .i64 x383006_1, .int .u8 x383007_1, .int .i64 x383008_1], .agg #[.int .u8 ((rd_T26 l2 x11_2).f1.f0), .int .u8 ((rd_T26 l2 x11_2).f1.f1), .int .u8 ((rd_T26 l2 x11_2).f1.f2), .int .u8 ((rd_T26 l2 x11_2).f1.f3), .int .i64 ((rd_T26 l2 x11_2).f1.f4), .int .i64 ((rd_T26 l2 x11_2).f1.f5), .int .i64 ((rd_T26 l2 x11_2).f1.f6), .int .u8 ((rd_T26 l2 x11_2).f1.f7), .int .i64 ((rd_T26 l2 x11_2).f1.f8)], .int .i64 x10_1] (by rfl) rfl rfl (by (try simp only [List.map_toArray, List.map_cons, List.map_nil]); first | done | rfl | (simp only [List.length_drop, List.length_take]; rfl)) ?_
                    with_reducible refine (stickfulref06_One.calls x383000_1 x383001_1 x383002_1 x383003_1 x383004_1 x383005_1 x383006_1 x383007_1 x383008_1 ((rd_T26 l2 x11_2).f1.f0) ((rd_T26 l2 x11_2).f1.f1) ((rd_T26 l2 x11_2).f1.f2) ((rd_T26 l2 x11_2).f1.f3) ((rd_T26 l2 x11_2).f1.f4) ((rd_T26 l2 x11_2).f1.f5) ((rd_T26 l2 x11_2).f1.f6) ((rd_T26 l2 x11_2).f1.f7) ((rd_T26 l2 x11_2).f1.f8) x10_1 t386 t387 t388 t389 t390 t391 t392 t393 t394 _ A19.out).mono ?_
                    rintro e w22 ⟨rfl, hb⟩
                    refine ⟨_, rfl, ?_⟩
                    replace BK380 := bb BK380 hb
                    replace BK381 := bb BK381 hb
                    replace BK382 := bb BK382 hb
                    replace HB := bh HB hb
                    (try clear hb)
                    (try clear hb2)
                    (try clear hk)
                    (try clear hi)
                    refine hK.out _ _ ⟨bc BK382 0, bc BK382 1, bc BK382 2, bc BK382 3, bc BK382 4, bc BK382 5, bc BK382 6, bc BK382 7, bc BK382 8, ((HB.out.cell (World.block_lt_of_cell? w _ hw385_0)).trans hw385_0), ((HB.out.cell (World.block_lt_of_cell? w _ hw385_1)).trans hw385_1), ((HB.out.cell (World.block_lt_of_cell? w _ hw385_2)).trans hw385_2), ((HB.out.cell (World.block_lt_of_cell? w _ hw385_3)).trans hw385_3), ((HB.out.cell (World.block_lt_of_cell? w _ hw385_4)).trans hw385_4), ((HB.out.cell (World.block_lt_of_cell? w _ hw385_5)).trans hw385_5), ((HB.out.cell (World.block_lt_of_cell? w _ hw385_6)).trans hw385_6), ((HB.out.cell (World.block_lt_of_cell? w _ hw385_7)).trans hw385_7), ((HB.out.cell (World.block_lt_of_cell? w _ hw385_8)).trans hw385_8), ((HB.out.cell (World.block_lt_of_cell? w _ hw385_9)).trans hw385_9)⟩ (fun hHeld => ?_)
                    clear hK K
                    refine norm_ (a' := ?_) ?_ ?_
                    rotate_left
                    · show Act.put _ (some 42) _ = _
                      simp only [Act.put, List.setIfInBounds_toArray, List.set_cons_zero, List.set_cons_succ, i64_w, i32_w]
                      rfl
                    refine last_ (i := 8) (N := none) #[true, true, true, true, true, true, true, true, true] rfl rfl (one_of HT_.out (by kernel_rfl)) (by decide) (fun K hK => ?_)
                    have hs23 : w22.cell? ⟨gb382, 0, none⟩ = some (.int .u8 x383000_1) := bc BK382 0
                    have hfs23 := blk_frozen BK382.out 0
                    have hns23_0 := NB380_382.out
                    have hns23_1 := NB381_382.out
                    have hms23_0 := NB382_380.out
                    have hms23_1 := NB382_381.out
                    have hs24 : w22.cell? ⟨gb382, 1, none⟩ = some (.int .u8 x383001_1) := bc BK382 1
                    have hfs24 := blk_frozen BK382.out 1
                    have hns24_0 := NB380_382.out
                    have hns24_1 := NB381_382.out
                    have hms24_0 := NB382_380.out
                    have hms24_1 := NB382_381.out
                    have hs25 : w22.cell? ⟨gb382, 2, none⟩ = some (.int .u8 x383002_1) := bc BK382 2
                    have hfs25 := blk_frozen BK382.out 2
                    have hns25_0 := NB380_382.out
                    have hns25_1 := NB381_382.out
                    have hms25_0 := NB382_380.out
                    have hms25_1 := NB382_381.out
                    have hs26 : w22.cell? ⟨gb382, 3, none⟩ = some (.int .u8 x383003_1) := bc BK382 3
                    have hfs26 := blk_frozen BK382.out 3
                    have hns26_0 := NB380_382.out
                    have hns26_1 := NB381_382.out
                    have hms26_0 := NB382_380.out
                    have hms26_1 := NB382_381.out
                    have hs27 : w22.cell? ⟨gb382, 4, none⟩ = some (.int .i64 x383004_1) := bc BK382 4
                    have hfs27 := blk_frozen BK382.out 4
                    have hns27_0 := NB380_382.out
                    have hns27_1 := NB381_382.out
                    have hms27_0 := NB382_380.out
                    have hms27_1 := NB382_381.out
                    have hs28 : w22.cell? ⟨gb382, 5, none⟩ = some (.int .i64 x383005_1) := bc BK382 5
                    have hfs28 := blk_frozen BK382.out 5
                    have hns28_0 := NB380_382.out
                    have hns28_1 := NB381_382.out
                    have hms28_0 := NB382_380.out
                    have hms28_1 := NB382_381.out
                    have hs29 : w22.cell? ⟨gb382, 6, none⟩ = some (.int .i64 x383006_1) := bc BK382 6
                    have hfs29 := blk_frozen BK382.out 6
                    have hns29_0 := NB380_382.out
                    have hns29_1 := NB381_382.out
                    have hms29_0 := NB382_380.out
                    have hms29_1 := NB382_381.out
                    have hs30 : w22.cell? ⟨gb382, 7, none⟩ = some (.int .u8 x383007_1) := bc BK382 7
                    have hfs30 := blk_frozen BK382.out 7
                    have hns30_0 := NB380_382.out
                    have hns30_1 := NB381_382.out
                    have hms30_0 := NB382_380.out
                    have hms30_1 := NB382_381.out
                    have hs31 : w22.cell? ⟨gb382, 8, none⟩ = some (.int .i64 x383008_1) := bc BK382 8
                    have hfs31 := blk_frozen BK382.out 8
                    have hns31_0 := NB380_382.out
                    have hns31_1 := NB381_382.out
                    have hms31_0 := NB382_380.out
                    have hms31_1 := NB382_381.out
                    refine skip_ (w1 := ?_) (by rfl) rfl ?_ ?_
                    rotate_left
                    · go_simp
                      rfl
                    refine hK.out _ _ ?_
                    clear hK K
                    refine done_ (done_of HT_.out (by kernel_rfl)) ?_
                    try go_wp2
                    go_roundg k2
                    case measure => have := HK1.out; have := HK2.out; omega
                    case rel => exact ⟨(wrap64 (x10_1 + 1)), (t386), (t387), (t388), (t389), (t390), (t391), (t392), (t393), (t394), (by first | rfl | (simp; done) | (simp [*]; done)), H', ⟨by have := HK1.out; have := HK2.out; omega⟩, ⟨by (with_reducible repeat (first | refine blk_drewN ?_ _ | refine blk_drew ?_ | refine blk_alloc ?_ _)); refine blk_far ?_ NB380_382.out _; (with_reducible repeat (first | refine blk_drewN ?_ _ | refine blk_drew ?_ | refine blk_alloc ?_ _)); refine blk_far ?_ NB380_382.out _; (with_reducible repeat (first | refine blk_drewN ?_ _ | refine blk_drew ?_ | refine blk_alloc ?_ _)); refine blk_far ?_ NB380_382.out _; (with_reducible repeat (first | refine blk_drewN ?_ _ | refine blk_drew ?_ | refine blk_alloc ?_ _)); refine blk_far ?_ NB380_382.out _; (with_reducible repeat (first | refine blk_drewN ?_ _ | refine blk_drew ?_ | refine blk_alloc ?_ _)); refine blk_far ?_ NB380_382.out _; (with_reducible repeat (first | refine blk_drewN ?_ _ | refine blk_drew ?_ | refine blk_alloc ?_ _)); refine blk_far ?_ NB380_382.out _; (with_reducible repeat (first | refine blk_drewN ?_ _ | refine blk_drew ?_ | refine blk_alloc ?_ _)); refine blk_far ?_ NB380_382.out _; (with_reducible repeat (first | refine blk_drewN ?_ _ | refine blk_drew ?_ | refine blk_alloc ?_ _)); refine blk_far ?_ NB380_382.out _; (with_reducible repeat (first | refine blk_drewN ?_ _ | refine blk_drew ?_ | refine blk_alloc ?_ _)); refine blk_far ?_ NB380_382.out _; (with_reducible repeat (first | refine blk_drewN ?_ _ | refine blk_drew ?_ | refine blk_alloc ?_ _)); exact BK380.out⟩, ⟨by (with_reducible repeat (first | refine blk_drewN ?_ _ | refine blk_drew ?_ | refine blk_alloc ?_ _)); refine blk_far ?_ NB381_382.out _; (with_reducible repeat (first | refine blk_drewN ?_ _ | refine blk_drew ?_ | refine blk_alloc ?_ _)); refine blk_far ?_ NB381_382.out _; (with_reducible repeat (first | refine blk_drewN ?_ _ | refine blk_drew ?_ | refine blk_alloc ?_ _)); refine blk_far ?_ NB381_382.out _; (with_reducible repeat (first | refine blk_drewN ?_ _ | refine blk_drew ?_ | refine blk_alloc ?_ _)); refine blk_far ?_ NB381_382.out _; (with_reducible repeat (first | refine blk_drewN ?_ _ | refine blk_drew ?_ | refine blk_alloc ?_ _)); refine blk_far ?_ NB381_382.out _; (with_reducible repeat (first | refine blk_drewN ?_ _ | refine blk_drew ?_ | refine blk_alloc ?_ _)); refine blk_far ?_ NB381_382.out _; (with_reducible repeat (first | refine blk_drewN ?_ _ | refine blk_drew ?_ | refine blk_alloc ?_ _)); refine blk_far ?_ NB381_382.out _; (with_reducible repeat (first | refine blk_drewN ?_ _ | refine blk_drew ?_ | refine blk_alloc ?_ _)); refine blk_far ?_ NB381_382.out _; (with_reducible repeat (first | refine blk_drewN ?_ _ | refine blk_drew ?_ | refine blk_alloc ?_ _)); refine blk_far ?_ NB381_382.out _; (with_reducible repeat (first | refine blk_drewN ?_ _ | refine blk_drew ?_ | refine blk_alloc ?_ _)); exact BK381.out⟩, ⟨by (with_reducible repeat (first | refine blk_drewN ?_ _ | refine blk_drew ?_ | refine blk_alloc ?_ _)); refine blk_put (cs := #[.int .u8 t386, .int .u8 t387, .int .u8 t388, .int .u8 t389, .int .i64 t390, .int .i64 t391, .int .i64 t392, .int .u8 t393, .int .i64 x383008_1]) ?_ 8 _ rfl; (with_reducible repeat (first | refine blk_drewN ?_ _ | refine blk_drew ?_ | refine blk_alloc ?_ _)); refine blk_put (cs := #[.int .u8 t386, .int .u8 t387, .int .u8 t388, .int .u8 t389, .int .i64 t390, .int .i64 t391, .int .i64 t392, .int .u8 x383007_1, .int .i64 x383008_1]) ?_ 7 _ rfl; (with_reducible repeat (first | refine blk_drewN ?_ _ | refine blk_drew ?_ | refine blk_alloc ?_ _)); refine blk_put (cs := #[.int .u8 t386, .int .u8 t387, .int .u8 t388, .int .u8 t389, .int .i64 t390, .int .i64 t391, .int .i64 x383006_1, .int .u8 x383007_1, .int .i64 x383008_1]) ?_ 6 _ rfl; (with_reducible repeat (first | refine blk_drewN ?_ _ | refine blk_drew ?_ | refine blk_alloc ?_ _)); refine blk_put (cs := #[.int .u8 t386, .int .u8 t387, .int .u8 t388, .int .u8 t389, .int .i64 t390, .int .i64 x383005_1, .int .i64 x383006_1, .int .u8 x383007_1, .int .i64 x383008_1]) ?_ 5 _ rfl; (with_reducible repeat (first | refine blk_drewN ?_ _ | refine blk_drew ?_ | refine blk_alloc ?_ _)); refine blk_put (cs := #[.int .u8 t386, .int .u8 t387, .int .u8 t388, .int .u8 t389, .int .i64 x383004_1, .int .i64 x383005_1, .int .i64 x383006_1, .int .u8 x383007_1, .int .i64 x383008_1]) ?_ 4 _ rfl; (with_reducible repeat (first | refine blk_drewN ?_ _ | refine blk_drew ?_ | refine blk_alloc ?_ _)); refine blk_put (cs := #[.int .u8 t386, .int .u8 t387, .int .u8 t388, .int .u8 x383003_1, .int .i64 x383004_1, .int .i64 x383005_1, .int .i64 x383006_1, .int .u8 x383007_1, .int .i64 x383008_1]) ?_ 3 _ rfl; (with_reducible repeat (first | refine blk_drewN ?_ _ | refine blk_drew ?_ | refine blk_alloc ?_ _)); refine blk_put (cs := #[.int .u8 t386, .int .u8 t387, .int .u8 x383002_1, .int .u8 x383003_1, .int .i64 x383004_1, .int .i64 x383005_1, .int .i64 x383006_1, .int .u8 x383007_1, .int .i64 x383008_1]) ?_ 2 _ rfl; (with_reducible repeat (first | refine blk_drewN ?_ _ | refine blk_drew ?_ | refine blk_alloc ?_ _)); refine blk_put (cs := #[.int .u8 t386, .int .u8 x383001_1, .int .u8 x383002_1, .int .u8 x383003_1, .int .i64 x383004_1, .int .i64 x383005_1, .int .i64 x383006_1, .int .u8 x383007_1, .int .i64 x383008_1]) ?_ 1 _ rfl; (with_reducible repeat (first | refine blk_drewN ?_ _ | refine blk_drew ?_ | refine blk_alloc ?_ _)); refine blk_put (cs := #[.int .u8 x383000_1, .int .u8 x383001_1, .int .u8 x383002_1, .int .u8 x383003_1, .int .i64 x383004_1, .int .i64 x383005_1, .int .i64 x383006_1, .int .u8 x383007_1, .int .i64 x383008_1]) ?_ 0 _ rfl; (with_reducible repeat (first | refine blk_drewN ?_ _ | refine blk_drew ?_ | refine blk_alloc ?_ _)); exact BK382.out⟩, ⟨by repeat (first | (with_reducible first | exact HB.out | apply below_alloc | apply pw_below_drewN | apply below_drew1 | refine below_set ?_ GE380.out | refine below_set ?_ GE381.out | refine below_set ?_ GE382.out) | exact HB.out)⟩⟩
                  · replace c18 := Bool.eq_false_iff.mpr c18
                    subst c18
                    have H1 : (if x11_2 < (l1.length : Int) then (stickfulref06_At.l1 k2 l1 l2 a3 x10_1 (rd l1 x11_2) x383000_1 x383001_1 x383002_1 x383003_1 x383004_1 x383005_1 x383006_1 x383007_1 x383008_1) else (none)) = some (r1, r2, r3, r4, r5, r6, r7, r8, r9) := by rw [if_neg (show ¬ (false = true) by decide)] at H; exact H
                    clear H
                    have H := H1
                    clear H1
                    by_cases c32 : x11_2 < (l1.length : Int)
                    · rw [if_pos c32] at H
                      have c32b0 : decide (x11_2 < (l1.length : Int)) = true := decide_eq_true c32
                      clear c32
                      have H' := Aside0.mk H
                      clear H
                      have p383 : 0 ≤ (x11_2 : Int) := of_decide_eq_true (by first | (with_reducible assumption) | assumption)
                      have q383 : x11_2 < (l2.length : Int) := of_decide_eq_true (by first | (with_reducible assumption) | assumption)
                      obtain ⟨ad383, e383, hx383_0, hx383_1, hx383_2, hx383_3, hx383_4, hx383_5, hx383_6, hx383_7, hx383_8, hx383_9⟩ := at_T26 HR2.out x11_2 p383 q383
                      cases e383
                      replace hx383_0 := (HB.out.cell (World.block_lt_of_cell? w _ hx383_0)).trans hx383_0
                      replace hx383_1 := (HB.out.cell (World.block_lt_of_cell? w _ hx383_1)).trans hx383_1
                      replace hx383_2 := (HB.out.cell (World.block_lt_of_cell? w _ hx383_2)).trans hx383_2
                      replace hx383_3 := (HB.out.cell (World.block_lt_of_cell? w _ hx383_3)).trans hx383_3
                      replace hx383_4 := (HB.out.cell (World.block_lt_of_cell? w _ hx383_4)).trans hx383_4
                      replace hx383_5 := (HB.out.cell (World.block_lt_of_cell? w _ hx383_5)).trans hx383_5
                      replace hx383_6 := (HB.out.cell (World.block_lt_of_cell? w _ hx383_6)).trans hx383_6
                      replace hx383_7 := (HB.out.cell (World.block_lt_of_cell? w _ hx383_7)).trans hx383_7
                      replace hx383_8 := (HB.out.cell (World.block_lt_of_cell? w _ hx383_8)).trans hx383_8
                      replace hx383_9 := (HB.out.cell (World.block_lt_of_cell? w _ hx383_9)).trans hx383_9
                      replace p383 := eq_true p383
                      replace q383 := eq_true q383
                      go_wp2_with (first | (go_at_call 31; (with_reducible refine (stickfulref06_Says.calls ((rd_T26 l2 x11_2).f0) ((rd_T26 l2 x11_2).f1.f0) ((rd_T26 l2 x11_2).f1.f1) ((rd_T26 l2 x11_2).f1.f2) ((rd_T26 l2 x11_2).f1.f3) ((rd_T26 l2 x11_2).f1.f4) ((rd_T26 l2 x11_2).f1.f5) ((rd_T26 l2 x11_2).f1.f6) ((rd_T26 l2 x11_2).f1.f7) ((rd_T26 l2 x11_2).f1.f8) x10_1 false _ A17.out).mono ?_); rintro e w33 ⟨rfl, hb⟩; replace BK380 := bb BK380 hb; replace BK381 := bb BK381 hb; replace BK382 := bb BK382 hb; replace HB := bh HB hb; (try clear hb); (try clear hb2); (try clear hk); (try clear hi); have p395 : 0 ≤ (x11_2 : Int) := of_decide_eq_true (by first | (with_reducible assumption) | assumption); have q395 : x11_2 < (l1.length : Int) := of_decide_eq_true (by first | (with_reducible assumption) | assumption); obtain ⟨ad395, e395, hx395_0⟩ := Kd.at_int HR1.out x11_2 p395 q395; cases e395; replace hx395_0 := (HB.out.cell (World.block_lt_of_cell? w _ hx395_0)).trans hx395_0; replace p395 := eq_true p395; replace q395 := eq_true q395))
                      go_roundg k2
                      case measure => have := HK1.out; have := HK2.out; omega
                      case rel => exact ⟨(rd l1 x11_2), (by first | rfl | (simp; done) | (simp [*]; done)), H', ⟨by have := HK1.out; have := HK2.out; omega⟩, ⟨by (with_reducible repeat (first | refine blk_drewN ?_ _ | refine blk_drew ?_ | refine blk_alloc ?_ _)); exact BK380.out⟩, ⟨by (with_reducible repeat (first | refine blk_drewN ?_ _ | refine blk_drew ?_ | refine blk_alloc ?_ _)); exact BK381.out⟩, ⟨by (with_reducible repeat (first | refine blk_drewN ?_ _ | refine blk_drew ?_ | refine blk_alloc ?_ _)); exact BK382.out⟩, ⟨by repeat (first | (with_reducible first | exact HB.out | apply below_alloc | apply pw_below_drewN | apply below_drew1 | refine below_set ?_ GE380.out | refine below_set ?_ GE381.out | refine below_set ?_ GE382.out) | exact HB.out)⟩⟩
                    · rw [if_neg c32] at H
                      exact absurd H (by simp)
                · rw [if_neg c16] at H
                  exact absurd H (by simp)
              · rw [if_neg c15] at H
                exact absurd H (by simp)
            · rw [if_neg c14] at H
              have c14b0 : decide (0 ≤ x11_2) = false := decide_eq_false c14
              clear c14
              have H' := Aside0.mk H
              clear H
              go_wp2
              go_roundg k2
              case measure => have := HK1.out; have := HK2.out; omega
              case rel => exact ⟨(wrap64 (x10_1 + 1)), (x383000_1), (x383001_1), (x383002_1), (x383003_1), (x383004_1), (x383005_1), (x383006_1), (x383007_1), (x383008_1), (by first | rfl | (simp; done) | (simp [*]; done)), H', ⟨by have := HK1.out; have := HK2.out; omega⟩, ⟨by (with_reducible repeat (first | refine blk_drewN ?_ _ | refine blk_drew ?_ | refine blk_alloc ?_ _)); exact BK380.out⟩, ⟨by (with_reducible repeat (first | refine blk_drewN ?_ _ | refine blk_drew ?_ | refine blk_alloc ?_ _)); exact BK381.out⟩, ⟨by (with_reducible repeat (first | refine blk_drewN ?_ _ | refine blk_drew ?_ | refine blk_alloc ?_ _)); exact BK382.out⟩, ⟨by repeat (first | (with_reducible first | exact HB.out | apply below_alloc | apply pw_below_drewN | apply below_drew1 | refine below_set ?_ GE380.out | refine below_set ?_ GE381.out | refine below_set ?_ GE382.out) | exact HB.out)⟩⟩
      · rw [if_neg c13] at H
        have c13b0 : decide (x10_1 < 8) = false := decide_eq_false c13
        clear c13
        simp only [Option.some.injEq, Prod.mk.injEq] at H
        obtain ⟨rfl, rfl, rfl, rfl, rfl, rfl, rfl, rfl, rfl⟩ := H
        have hnb34 := NB382_380.out
        have hnc34 := NB380_382.out
        have hnb35 := NB382_381.out
        have hnc35 := NB381_382.out
        obtain ⟨hcz36_0, hcz36_1, hcz36_2, hcz36_3, hcz36_4, hcz36_5, hcz36_6, hcz36_7, hcz36_8⟩ := cz9 BK382
        obtain ⟨hfz36_0, hfz36_1, hfz36_2, hfz36_3, hfz36_4, hfz36_5, hfz36_6, hfz36_7, hfz36_8⟩ := fz9 BK382
        have hnb37 := NB381_380.out
        have hnc37 := NB380_381.out
        obtain ⟨hcz38_0, hcz38_1, hcz38_2, hcz38_3, hcz38_4, hcz38_5, hcz38_6, hcz38_7, hcz38_8⟩ := cz9 BK381
        obtain ⟨hfz38_0, hfz38_1, hfz38_2, hfz38_3, hfz38_4, hfz38_5, hfz38_6, hfz38_7, hfz38_8⟩ := fz9 BK381
        go_wp2
        refine bodyPost_ret (results_cell_row rfl _ _ gb381 23 #[.int .u8 x383000_1, .int .u8 x383001_1, .int .u8 x383002_1, .int .u8 x383003_1, .int .i64 x383004_1, .int .i64 x383005_1, .int .i64 x383006_1, .int .u8 x383007_1, .int .i64 x383008_1] (0, 0) _ rfl (by (with_reducible repeat (first | refine blk_drewN ?_ _ | refine blk_drew ?_ | refine blk_alloc ?_ _)); refine blk_put (cs := #[.int .u8 x383000_1, .int .u8 x383001_1, .int .u8 x383002_1, .int .u8 x383003_1, .int .i64 x383004_1, .int .i64 x383005_1, .int .i64 x383006_1, .int .u8 x383007_1, .int .i64 0]) ?_ 8 _ rfl; (with_reducible repeat (first | refine blk_drewN ?_ _ | refine blk_drew ?_ | refine blk_alloc ?_ _)); refine blk_put (cs := #[.int .u8 x383000_1, .int .u8 x383001_1, .int .u8 x383002_1, .int .u8 x383003_1, .int .i64 x383004_1, .int .i64 x383005_1, .int .i64 x383006_1, .int .u8 0, .int .i64 0]) ?_ 7 _ rfl; (with_reducible repeat (first | refine blk_drewN ?_ _ | refine blk_drew ?_ | refine blk_alloc ?_ _)); refine blk_put (cs := #[.int .u8 x383000_1, .int .u8 x383001_1, .int .u8 x383002_1, .int .u8 x383003_1, .int .i64 x383004_1, .int .i64 x383005_1, .int .i64 0, .int .u8 0, .int .i64 0]) ?_ 6 _ rfl; (with_reducible repeat (first | refine blk_drewN ?_ _ | refine blk_drew ?_ | refine blk_alloc ?_ _)); refine blk_put (cs := #[.int .u8 x383000_1, .int .u8 x383001_1, .int .u8 x383002_1, .int .u8 x383003_1, .int .i64 x383004_1, .int .i64 0, .int .i64 0, .int .u8 0, .int .i64 0]) ?_ 5 _ rfl; (with_reducible repeat (first | refine blk_drewN ?_ _ | refine blk_drew ?_ | refine blk_alloc ?_ _)); refine blk_put (cs := #[.int .u8 x383000_1, .int .u8 x383001_1, .int .u8 x383002_1, .int .u8 x383003_1, .int .i64 0, .int .i64 0, .int .i64 0, .int .u8 0, .int .i64 0]) ?_ 4 _ rfl; (with_reducible repeat (first | refine blk_drewN ?_ _ | refine blk_drew ?_ | refine blk_alloc ?_ _)); refine blk_put (cs := #[.int .u8 x383000_1, .int .u8 x383001_1, .int .u8 x383002_1, .int .u8 0, .int .i64 0, .int .i64 0, .int .i64 0, .int .u8 0, .int .i64 0]) ?_ 3 _ rfl; (with_reducible repeat (first | refine blk_drewN ?_ _ | refine blk_drew ?_ | refine blk_alloc ?_ _)); refine blk_put (cs := #[.int .u8 x383000_1, .int .u8 x383001_1, .int .u8 0, .int .u8 0, .int .i64 0, .int .i64 0, .int .i64 0, .int .u8 0, .int .i64 0]) ?_ 2 _ rfl; (with_reducible repeat (first | refine blk_drewN ?_ _ | refine blk_drew ?_ | refine blk_alloc ?_ _)); refine blk_put (cs := #[.int .u8 x383000_1, .int .u8 0, .int .u8 0, .int .u8 0, .int .i64 0, .int .i64 0, .int .i64 0, .int .u8 0, .int .i64 0]) ?_ 1 _ rfl; (with_reducible repeat (first | refine blk_drewN ?_ _ | refine blk_drew ?_ | refine blk_alloc ?_ _)); refine blk_put (cs := #[.int .u8 0, .int .u8 0, .int .u8 0, .int .u8 0, .int .i64 0, .int .i64 0, .int .i64 0, .int .u8 0, .int .i64 0]) ?_ 0 _ rfl; (with_reducible repeat (first | refine blk_drewN ?_ _ | refine blk_drew ?_ | refine blk_alloc ?_ _)); exact BK381.out) Try.underlying23 rfl (by kernel_rfl)) rfl ?_
        exact ⟨by first | rfl | (simp [errW_none, errW_some] <;> rfl) | (simp [*, errW_none, errW_some] <;> rfl), by repeat (first | (with_reducible first | exact HB.out | apply below_alloc | apply pw_below_drewN | apply below_drew1 | refine below_set ?_ GE380.out | refine below_set ?_ GE381.out | refine below_set ?_ GE382.out) | exact HB.out)⟩

end Go.Proofs.Ytahpkfmgeifenaa.HStyle
