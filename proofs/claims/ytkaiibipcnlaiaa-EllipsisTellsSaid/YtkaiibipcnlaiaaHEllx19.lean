-- Written by this claim's own program over the kit's print.
import Derived.Test.YtkaiibipcnlaiaaHEllb
import Derived.Test.YtkaiibipcnlaiaaHEllx0
import Derived.Test.YtkaiibipcnlaiaaHEllx2
import Derived.Test.YtkaiibipcnlaiaaHEllx15
import Derived.Test.YtkaiibipcnlaiaaHEllx16
import Derived.Test.YtkaiibipcnlaiaaHEllx18
namespace Go.Proofs.Ytkaiibipcnlaiaa.HEll
open Go.RowKit Go.Proofs.YtkaiibipcnlaiaaW.PrintWords Go.Proofs.YtkaiibipcnlaiaaW.PrintLast Go.Proofs.YtkaiibipcnlaiaaW.PrintMore Go.Proofs.Ytkaiibipcnlaiaa.Hand
attribute [local go_sem] max2_int min2_int max_two min_two max_three min_three max_four min_four   -- for this text's walks alone
set_option linter.unusedVariables false
set_option linter.unusedSimpArgs false

/-- Which operations have been taken: the bits of a number. -/
def stickfulref26_Cut.bits : Nat → Nat → List Bool
 | 0, _ => []
 | n + 1, m => Nat.beq (m % 2) 1 :: stickfulref26_Cut.bits n (m / 2)
def stickfulref26_Cut.bm (n m : Nat) : Array Bool := (stickfulref26_Cut.bits n m).toArray
/-! ### stickfulref26_Cut: function 11 -/
mutual
def stickfulref26_Cut.j0 : Nat → List (S53) → Int → List Int → Bool → Int → Int → Bool → Int → Int → Option (Int × Int × Bool × Int)
 | 0, _, _, _, _, _, _, _, _, _ => none
 | k + 1, x0, x4, x14, x44, x273000, x273001, x273002, x274000, x274001 => if x44 = true then (some (0, 0, false, 2)) else (if 0 ≤ x273000 then (if x273000 ≤ x273001 then (if x273001 ≤ (x0.length : Int) then ((some ((x0.take (x273001 : Int).toNat).drop (x273000 : Int).toNat : List (S53))).bind fun y278 => ((stickfulref13_Fits.f k y278 x274001).bind fun bt282 => (if bt282.2 = 0 then ((stickfulref13_Roles.f k y278).bind fun t284 => ((stickfulref12_Pens.f k y278 t284 x274001).bind fun bt287 => (if bt287.2 = 0 then (if bt282.1 ≤ x274000 then (if 0 ≤ (y278.length : Int) then (if (y278.length : Int) < (bt287.1.length : Int) then (some (x273001, rd bt287.1 (y278.length : Int), false, 0)) else (none)) else (none)) else (stickfulref26_Cut.l0 k x4 x14 bt287.1 x273000 0 x273000 x273001 x273002 x274000 x274001)) else (some (0, 0, false, bt287.2))))) else (some (0, 0, false, bt282.2))))) else (none)) else (none)) else (none))
def stickfulref26_Cut.l0 : Nat → Int → List Int → List Int → Int → Int → Int → Int → Bool → Int → Int → Option (Int × Int × Bool × Int)
 | 0, _, _, _, _, _, _, _, _, _, _ => none
 | k + 1, x4, x14, x19, x21, x22, x273000, x273001, x273002, x274000, x274001 => if x22 < (x14.length : Int) then (if 0 ≤ x22 then (if 0 ≤ (wrap64 ((rd x14 x22) - x273000)) then (if (wrap64 ((rd x14 x22) - x273000)) < (x19.length : Int) then (if (wrap64 ((rd x19 (wrap64 ((rd x14 x22) - x273000))) + x4)) ≤ x274000 then (stickfulref26_Cut.l0 k x4 x14 x19 (rd x14 x22) (wrap64 (x22 + 1)) x273000 x273001 x273002 x274000 x274001) else (stickfulref26_Cut.l0 k x4 x14 x19 x21 (wrap64 (x22 + 1)) x273000 x273001 x273002 x274000 x274001)) else (none)) else (none)) else (none)) else (if 0 ≤ (wrap64 (x21 - x273000)) then (if (wrap64 (x21 - x273000)) < (x19.length : Int) then (some (x21, rd x19 (wrap64 (x21 - x273000)), true, 0)) else (none)) else (none))
end
def stickfulref26_Cut.f (k : Nat) (l0 : List (S53)) (l1 : List Bool) (a2_0 a2_1 : Int) (a2_2 : Bool) (a3_0 a3_1 a4 : Int) : Option (Int × Int × Bool × Int) := (stickfulref26_Places.f k l0 l1 a2_0 a2_1 a2_2).bind fun bt274 => (if bt274.2 = 0 then (if a3_0 < 0 then (stickfulref26_Cut.j0 k l0 a4 bt274.1 true a2_0 a2_1 a2_2 a3_0 a3_1) else (if a4 < 0 then (stickfulref26_Cut.j0 k l0 a4 bt274.1 true a2_0 a2_1 a2_2 a3_0 a3_1) else (stickfulref26_Cut.j0 k l0 a4 bt274.1 (decide (a4 > 1073741824)) a2_0 a2_1 a2_2 a3_0 a3_1))) else (stickfulref26_Cut.j0 k l0 a4 bt274.1 true a2_0 a2_1 a2_2 a3_0 a3_1))
theorem stickfulref26_Cut.mono_l : ∀ k, (∀ y0 y1 y2 y3 y4 y5 y6 y7 y8, LeO (stickfulref26_Cut.j0 k y0 y1 y2 y3 y4 y5 y6 y7 y8) (stickfulref26_Cut.j0 (k + 1) y0 y1 y2 y3 y4 y5 y6 y7 y8)) ∧ (∀ y0 y1 y2 y3 y4 y5 y6 y7 y8 y9, LeO (stickfulref26_Cut.l0 k y0 y1 y2 y3 y4 y5 y6 y7 y8 y9) (stickfulref26_Cut.l0 (k + 1) y0 y1 y2 y3 y4 y5 y6 y7 y8 y9))
 | 0 => ⟨fun _ _ _ _ _ _ _ _ _ r h => by simp [stickfulref26_Cut.j0] at h, fun _ _ _ _ _ _ _ _ _ _ r h => by simp [stickfulref26_Cut.l0] at h⟩
 | k + 1 => by
  obtain ⟨ih0, ih1⟩ := stickfulref26_Cut.mono_l k
  refine ⟨?_, ?_⟩
  ·intro y0 y1 y2 y3 y4 y5 y6 y7 y8
   unfold stickfulref26_Cut.j0
   repeat' first
   | (with_reducible exact ih0 _ _ _ _ _ _ _ _ _)
   | (with_reducible exact ih1 _ _ _ _ _ _ _ _ _ _)
   | (with_reducible exact stickfulref12_Pens.mono _ _ _ _)
   | (with_reducible exact stickfulref13_Fits.mono _ _ _)
   | (with_reducible exact stickfulref13_Roles.mono _ _)
   | (with_reducible exact stickfulref26_Places.mono _ _ _ _ _ _)
   | (with_reducible exact LeO.refl _)
   | (with_reducible exact LeO.none _)
   | (with_reducible refine LeO.ite ?_ ?_)
   | (with_reducible refine LeO.bind ?_ (fun _ => ?_))
   | exact ih0 _ _ _ _ _ _ _ _ _
   | exact ih1 _ _ _ _ _ _ _ _ _ _
   | exact stickfulref12_Pens.mono _ _ _ _
   | exact stickfulref13_Fits.mono _ _ _
   | exact stickfulref13_Roles.mono _ _
   | exact stickfulref26_Places.mono _ _ _ _ _ _
   | exact LeO.none _
   | refine LeO.ite ?_ ?_
   | refine LeO.bind ?_ (fun _ => ?_)
  ·intro y0 y1 y2 y3 y4 y5 y6 y7 y8 y9
   unfold stickfulref26_Cut.l0
   repeat' first
   | (with_reducible exact ih0 _ _ _ _ _ _ _ _ _)
   | (with_reducible exact ih1 _ _ _ _ _ _ _ _ _ _)
   | (with_reducible exact stickfulref12_Pens.mono _ _ _ _)
   | (with_reducible exact stickfulref13_Fits.mono _ _ _)
   | (with_reducible exact stickfulref13_Roles.mono _ _)
   | (with_reducible exact stickfulref26_Places.mono _ _ _ _ _ _)
   | (with_reducible exact LeO.refl _)
   | (with_reducible exact LeO.none _)
   | (with_reducible refine LeO.ite ?_ ?_)
   | (with_reducible refine LeO.bind ?_ (fun _ => ?_))
   | exact ih0 _ _ _ _ _ _ _ _ _
   | exact ih1 _ _ _ _ _ _ _ _ _ _
   | exact stickfulref12_Pens.mono _ _ _ _
   | exact stickfulref13_Fits.mono _ _ _
   | exact stickfulref13_Roles.mono _ _
   | exact stickfulref26_Places.mono _ _ _ _ _ _
   | exact LeO.none _
   | refine LeO.ite ?_ ?_
   | refine LeO.bind ?_ (fun _ => ?_)
theorem stickfulref26_Cut.mono : ∀ a0 a1 a2 a3 a4 a5 a6 a7 k, LeO (stickfulref26_Cut.f k a0 a1 a2 a3 a4 a5 a6 a7) (stickfulref26_Cut.f (k + 1) a0 a1 a2 a3 a4 a5 a6 a7) := by
 intro a0 a1 a2 a3 a4 a5 a6 a7 k
 obtain ⟨ih0, ih1⟩ := stickfulref26_Cut.mono_l k
 unfold stickfulref26_Cut.f
 repeat' first
   | (with_reducible exact ih0 _ _ _ _ _ _ _ _ _)
   | (with_reducible exact ih1 _ _ _ _ _ _ _ _ _ _)
   | (with_reducible exact stickfulref12_Pens.mono _ _ _ _)
   | (with_reducible exact stickfulref13_Fits.mono _ _ _)
   | (with_reducible exact stickfulref13_Roles.mono _ _)
   | (with_reducible exact stickfulref26_Places.mono _ _ _ _ _ _)
   | (with_reducible exact LeO.refl _)
   | (with_reducible exact LeO.none _)
   | (with_reducible refine LeO.ite ?_ ?_)
   | (with_reducible refine LeO.bind ?_ (fun _ => ?_))
   | exact ih0 _ _ _ _ _ _ _ _ _
   | exact ih1 _ _ _ _ _ _ _ _ _ _
   | exact stickfulref12_Pens.mono _ _ _ _
   | exact stickfulref13_Fits.mono _ _ _
   | exact stickfulref13_Roles.mono _ _
   | exact stickfulref26_Places.mono _ _ _ _ _ _
   | exact LeO.none _
   | refine LeO.ite ?_ ?_
   | refine LeO.bind ?_ (fun _ => ?_)
def stickfulref26_Cut.T8 : Bool × List (List Nat × List Nat) := (true, [([], []), ([], []), ([1], [1]), ([], []), ([3], [3]), ([0, 2, 4, 2], [0, 2, 4]), ([5], [5]), ([6], [6]), ([6], [6]), ([7, 5, 0, 1, 2, 3, 4, 5, 6, 7], [7]), ([8, 9, 0, 1, 2, 3, 4, 5, 6, 7, 8, 9], [8])])
def stickfulref26_Cut.B8 : List Nat := [0, 0, 2, 0, 8, 31, 63, 127, 127, 255, 1023]
theorem stickfulref26_Cut.tab8 : rtab .any (opsOf Try.f11 8) = stickfulref26_Cut.T8 := by kernel_rfl
theorem stickfulref26_Cut.bits8 : waitsOk stickfulref26_Cut.T8.2 stickfulref26_Cut.B8 = true := by kernel_rfl
def stickfulref26_Cut.T12 : Bool × List (List Nat × List Nat) := (true, [([], []), ([0], [0]), ([], []), ([], []), ([3], [3]), ([2, 4], [2, 4]), ([5], [5]), ([1, 0, 1], [1]), ([6, 7, 0, 1, 2, 3, 4, 5, 6, 7], [6]), ([8, 0, 1, 2, 3, 4, 5, 6, 7, 8], []), ([9, 0, 1, 2, 3, 4, 5, 6, 7, 8, 9], [])])
def stickfulref26_Cut.B12 : List Nat := [0, 1, 0, 0, 8, 28, 60, 3, 255, 511, 1023]
theorem stickfulref26_Cut.tab12 : rtab .any (opsOf Try.f11 12) = stickfulref26_Cut.T12 := by kernel_rfl
theorem stickfulref26_Cut.bits12 : waitsOk stickfulref26_Cut.T12.2 stickfulref26_Cut.B12 = true := by kernel_rfl
def stickfulref26_Cut.T17 : Bool × List (List Nat × List Nat) := (true, [([], []), ([], []), ([], []), ([1, 2], [1, 2]), ([3], [3]), ([], []), ([5], [5]), ([4, 6], [4, 6]), ([0, 7], [0, 7]), ([8], [8]), ([], []), ([9, 10], [9, 10]), ([], []), ([12], [12]), ([11, 13], [11, 13])])
def stickfulref26_Cut.B17 : List Nat := [0, 0, 0, 6, 14, 0, 32, 126, 255, 511, 0, 2047, 0, 4096, 16383]
theorem stickfulref26_Cut.tab17 : rtab .any (opsOf Try.f11 17) = stickfulref26_Cut.T17 := by kernel_rfl
theorem stickfulref26_Cut.bits17 : waitsOk stickfulref26_Cut.T17.2 stickfulref26_Cut.B17 = true := by kernel_rfl
def stickfulref26_Cut.T19 : Bool × List (List Nat × List Nat) := (true, [([], []), ([], []), ([], []), ([], []), ([3], [3]), ([2, 4], [2, 4]), ([1, 5], [1, 5]), ([6], [6]), ([0, 0], [0]), ([7, 8, 0, 1, 2, 3, 4, 5, 6, 7, 8], [7]), ([9, 0, 1, 2, 3, 4, 5, 6, 7, 8, 9], []), ([10, 0, 1, 2, 3, 4, 5, 6, 7, 8, 9, 10], [])])
def stickfulref26_Cut.B19 : List Nat := [0, 0, 0, 0, 8, 28, 62, 126, 1, 511, 1023, 2047]
theorem stickfulref26_Cut.tab19 : rtab .any (opsOf Try.f11 19) = stickfulref26_Cut.T19 := by kernel_rfl
theorem stickfulref26_Cut.bits19 : waitsOk stickfulref26_Cut.T19.2 stickfulref26_Cut.B19 = true := by kernel_rfl
set_option maxHeartbeats 8000000 in
set_option maxRecDepth 100000 in
theorem stickfulref26_Cut.calls (k : Nat) (A0 : Option Addr) (c0 : Nat) (l0 : List (S53)) (A1 : Option Addr) (c1 : Nat) (l1 : List Bool) (a2_0 a2_1 : Int) (a2_2 : Bool) (a3_0 a3_1 a4 r1 r2 : Int) (r3 : Bool) (r4 : Int) (w : World) (hr0 : Kd.C k53 w A0 l0.length l0) (hc0 : l0.length ≤ c0) (hr1 : Kd.C Kd.bool w A1 l1.length l1) (hc1 : l1.length ≤ c1) (h : stickfulref26_Cut.f k l0 l1 a2_0 a2_1 a2_2 a3_0 a3_1 a4 = some (r1, r2, r3, r4)) :
  Calls Try.prog 11 #[.slice A0 l0.length c0, .slice A1 l1.length c1, .agg #[.int .i64 a2_0, .int .i64 a2_1, .bool a2_2], .agg #[.int .i64 a3_0, .int .i64 a3_1], .int .i64 a4] w fun e w' => e = .returned (.tuple #[.int .i64 r1, .int .i64 r2, .bool r3, .int .i64 r4]) ∧ Below w.heap.size w w' := by
 have hu25 := Try.underlying25
 have hu29 := Try.underlying29
 have HR0 := Aside0.mk hr0
 have HC0 := Aside0.mk hc0
 clear hr0 hc0
 have HR1 := Aside0.mk hr1
 have HC1 := Aside0.mk hc1
 clear hr1 hc1
 have HB := Aside0.mk (Below.refl w.heap.size w)
 have H : ((stickfulref26_Places.f k l0 l1 a2_0 a2_1 a2_2).bind fun bt274 => (if bt274.2 = 0 then (if a3_0 < 0 then (stickfulref26_Cut.j0 k l0 a4 bt274.1 true a2_0 a2_1 a2_2 a3_0 a3_1) else (if a4 < 0 then (stickfulref26_Cut.j0 k l0 a4 bt274.1 true a2_0 a2_1 a2_2 a3_0 a3_1) else (stickfulref26_Cut.j0 k l0 a4 bt274.1 (decide (a4 > 1073741824)) a2_0 a2_1 a2_2 a3_0 a3_1))) else (stickfulref26_Cut.j0 k l0 a4 bt274.1 true a2_0 a2_1 a2_2 a3_0 a3_1))) = some (r1, r2, r3, r4) := h
 clear h
 replace H := Option.bind_eq_some_iff.mp H
 obtain ⟨⟨t274, t277⟩, A60, H⟩ := H
 replace H : (if t277 = 0 then (if a3_0 < 0 then (stickfulref26_Cut.j0 k l0 a4 t274 true a2_0 a2_1 a2_2 a3_0 a3_1) else (if a4 < 0 then (stickfulref26_Cut.j0 k l0 a4 t274 true a2_0 a2_1 a2_2 a3_0 a3_1) else (stickfulref26_Cut.j0 k l0 a4 t274 (decide (a4 > 1073741824)) a2_0 a2_1 a2_2 a3_0 a3_1))) else (stickfulref26_Cut.j0 k l0 a4 t274 true a2_0 a2_1 a2_2 a3_0 a3_1)) = some (r1, r2, r3, r4) := H
 have A6 := Aside0.mk A60
 clear A60
 have HC7 := Aside0.mk H
 clear H
 go_enter Try.func11, Try.ntmps11
 go_upto_region 2 with (first | ((with_reducible refine gate_dst (N := 7) rfl ?_); refine box_event ?hg (N := 7) ?hd (cs := #[.int .i64 a2_0, .int .i64 a2_1, .bool a2_2]) (t := 25) ?hr ?_; (case hd => rfl); (case hg => rfl); (case hr => first | (go_simp; done) | (go_simp; rfl)); intro gb272 hg w8 hbox hb; have BK272 := Aside0.mk (hbox); have GW272 := bge HB hg; have GE272 := bge HB hg; replace HB := bh HB hb; clear hb hbox hg) | ((with_reducible refine gate_dst (N := 8) rfl ?_); refine box_event ?hg (N := 8) ?hd (cs := #[.int .i64 a3_0, .int .i64 a3_1]) (t := 29) ?hr ?_; (case hd => rfl); (case hg => rfl); (case hr => first | (go_simp; done) | (go_simp; rfl)); intro gb273 hg w9 hbox hb; have BK273 := Aside0.mk (hbox); have GW273 := bge HB hg; have GE273 := bge HB hg; replace HB := bh HB hb; have NB272_273 := nbl BK272 hg; have NB273_272 := nbg BK272 hg; replace BK272 := bb BK272 hb; clear hb hbox hg; have hnb10 := NB272_273.out; have hnc10 := NB273_272.out; obtain ⟨hcz11_0, hcz11_1, hcz11_2⟩ := cz3 BK272; obtain ⟨hfz11_0, hfz11_1, hfz11_2⟩ := fz3 BK272) | ((with_reducible refine gate_callee (f := 13) rfl ?_); refine goesB (some 27) rfl rfl Try.func13 #[.slice A0 l0.length c0, .slice A1 l1.length c1, .agg #[.int .i64 a2_0, .int .i64 a2_1, .bool a2_2]] rfl ?_; (with_reducible refine (stickfulref26_Places.calls k _ _ l0 _ _ l1 a2_0 a2_1 a2_2 t274 t277 _ ?side1 ?side2 ?side3 ?side4 A6.out).mono ?_); (case side1 => repeat (first | exact (Kd.C_below HR0.out HB.out) | (with_reducible refine Kd.C_alloc ?_ _) | (with_reducible refine Kd.C_drewN ?_ _) | (with_reducible refine Kd.C_drew ?_))); (case side2 => exact HC0.out); (case side3 => repeat (first | exact (Kd.C_below HR1.out HB.out) | (with_reducible refine Kd.C_alloc ?_ _) | (with_reducible refine Kd.C_drewN ?_ _) | (with_reducible refine Kd.C_drew ?_))); (case side4 => exact HC1.out); rintro e w12 ⟨v275, rfl, ho0, hb⟩; refine ⟨_, rfl, ?_⟩; have HO276 := Aside0.mk (Kd.R_lower ho0 (below_size (bw HB))); replace BK272 := bb BK272 hb; replace BK273 := bb BK273 hb; replace HB := bh HB hb; (try clear hb); (try clear hb2); (try clear hk); (try clear hi); (try clear ho0)))
 (try simp only [Act.put, List.setIfInBounds_toArray, List.set_cons_zero, List.set_cons_succ])
 go_cut [44] (fun v44 wc => ∃ (kq : Nat) (x44_6 : Bool), v44 = .bool x44_6 ∧ Aside0 (stickfulref26_Cut.j0 kq l0 a4 t274 x44_6 a2_0 a2_1 a2_2 a3_0 a3_1 = some (r1, r2, r3, r4)) ∧ Aside0 (kq ≤ k) ∧ Aside0 (Kd.R (Kd.int .i64) 3 wc w.heap.size (fun _ => True) v275 t274) ∧ Aside0 (wc.heap[gb272]? = some (.cells #[.int .i64 a2_0, .int .i64 a2_1, .bool a2_2] 25 (0, 0))) ∧ Aside0 (wc.heap[gb273]? = some (.cells #[.int .i64 a3_0, .int .i64 a3_1] 29 (0, 0))) ∧ Aside0 (Below w.heap.size w wc))
 case first =>
  have H := HC7.out
  clear HC7
  by_cases c13 : t277 = 0
  ·rw [if_pos c13] at H
   have c13b0 : (t277 == 0) = true := beq_iff_eq.mpr c13
   have c13b1 : (t277 != 0) = false := bne_eq_false_iff_eq.mpr c13
   clear c13
   (first | rw [c13b0] | (simp only [i64_w, i32_w]; rw [c13b0]) | skip)
   by_cases c14 : a3_0 < 0
   ·rw [if_pos c14] at H
    have c14b0 : decide (a3_0 < 0) = true := decide_eq_true c14
    clear c14
    have H' := Aside0.mk H
    clear H
    have hnb15 := NB273_272.out
    have hnc15 := NB272_273.out
    obtain ⟨hcz16_0, hcz16_1⟩ := cz2 BK273
    obtain ⟨hfz16_0, hfz16_1⟩ := fz2 BK273
    go_wp2
    go_meet
    case rel => exact ⟨_, (true), (by first | rfl | (simp; done) | (simp [*]; done)), H', ⟨by first | omega | exact Nat.le_refl _⟩, ⟨by (with_reducible repeat (first | apply Kd.R_alloc | apply Kd.R_drewN | apply Kd.R_drew)); exact HO276.out⟩, ⟨by (with_reducible repeat (first | refine blk_drewN ?_ _ | refine blk_drew ?_ | refine blk_alloc ?_ _)); exact BK272.out⟩, ⟨by (with_reducible repeat (first | refine blk_drewN ?_ _ | refine blk_drew ?_ | refine blk_alloc ?_ _)); exact BK273.out⟩, ⟨by repeat (first | (with_reducible first | exact HB.out | apply below_alloc | apply pw_below_drewN | apply below_drew1 | refine below_set ?_ GE272.out | refine below_set ?_ GE273.out) | exact HB.out)⟩⟩
   ·rw [if_neg c14] at H
    have c14b0 : decide (a3_0 < 0) = false := decide_eq_false c14
    clear c14
    by_cases c17 : a4 < 0
    ·rw [if_pos c17] at H
     have c17b0 : decide (a4 < 0) = true := decide_eq_true c17
     clear c17
     have H' := Aside0.mk H
     clear H
     have hnb18 := NB273_272.out
     have hnc18 := NB272_273.out
     obtain ⟨hcz19_0, hcz19_1⟩ := cz2 BK273
     obtain ⟨hfz19_0, hfz19_1⟩ := fz2 BK273
     go_wp2
     go_meet
     case rel => exact ⟨_, (true), (by first | rfl | (simp; done) | (simp [*]; done)), H', ⟨by first | omega | exact Nat.le_refl _⟩, ⟨by (with_reducible repeat (first | apply Kd.R_alloc | apply Kd.R_drewN | apply Kd.R_drew)); exact HO276.out⟩, ⟨by (with_reducible repeat (first | refine blk_drewN ?_ _ | refine blk_drew ?_ | refine blk_alloc ?_ _)); exact BK272.out⟩, ⟨by (with_reducible repeat (first | refine blk_drewN ?_ _ | refine blk_drew ?_ | refine blk_alloc ?_ _)); exact BK273.out⟩, ⟨by repeat (first | (with_reducible first | exact HB.out | apply below_alloc | apply pw_below_drewN | apply below_drew1 | refine below_set ?_ GE272.out | refine below_set ?_ GE273.out) | exact HB.out)⟩⟩
    ·rw [if_neg c17] at H
     have c17b0 : decide (a4 < 0) = false := decide_eq_false c17
     clear c17
     have H' := Aside0.mk H
     clear H
     have hnb20 := NB273_272.out
     have hnc20 := NB272_273.out
     obtain ⟨hcz21_0, hcz21_1⟩ := cz2 BK273
     obtain ⟨hfz21_0, hfz21_1⟩ := fz2 BK273
     go_wp2
     go_meet
     case rel => exact ⟨_, (decide (a4 > 1073741824)), (by first | rfl | (simp; done) | (simp [*]; done)), H', ⟨by first | omega | exact Nat.le_refl _⟩, ⟨by (with_reducible repeat (first | apply Kd.R_alloc | apply Kd.R_drewN | apply Kd.R_drew)); exact HO276.out⟩, ⟨by (with_reducible repeat (first | refine blk_drewN ?_ _ | refine blk_drew ?_ | refine blk_alloc ?_ _)); exact BK272.out⟩, ⟨by (with_reducible repeat (first | refine blk_drewN ?_ _ | refine blk_drew ?_ | refine blk_alloc ?_ _)); exact BK273.out⟩, ⟨by repeat (first | (with_reducible first | exact HB.out | apply below_alloc | apply pw_below_drewN | apply below_drew1 | refine below_set ?_ GE272.out | refine below_set ?_ GE273.out) | exact HB.out)⟩⟩
  ·rw [if_neg c13] at H
   have c13b0 : (t277 == 0) = false := beq_eq_false_iff_ne.mpr c13
   have c13b1 : (t277 != 0) = true := bne_iff_ne.mpr c13
   (first | rw [c13b0] | (simp only [i64_w, i32_w]; rw [c13b0]) | skip)
   have H' := Aside0.mk H
   clear H
   go_wp2
   go_meet
   case rel => exact ⟨_, (true), (by first | rfl | (simp; done) | (simp [*]; done)), H', ⟨by first | omega | exact Nat.le_refl _⟩, ⟨by (with_reducible repeat (first | apply Kd.R_alloc | apply Kd.R_drewN | apply Kd.R_drew)); exact HO276.out⟩, ⟨by (with_reducible repeat (first | refine blk_drewN ?_ _ | refine blk_drew ?_ | refine blk_alloc ?_ _)); exact BK272.out⟩, ⟨by (with_reducible repeat (first | refine blk_drewN ?_ _ | refine blk_drew ?_ | refine blk_alloc ?_ _)); exact BK273.out⟩, ⟨by repeat (first | (with_reducible first | exact HB.out | apply below_alloc | apply pw_below_drewN | apply below_drew1 | refine below_set ?_ GE272.out | refine below_set ?_ GE273.out) | exact HB.out)⟩⟩
 case rest =>
  clear HC7
  try clear c1
  try clear c2
  try clear p2
  try clear c10
  try clear c11
  try clear c13
  try clear c13b0
  try clear c13b1
  try clear c14
  try clear c14b0
  try clear c15
  try clear c17
  try clear c17b0
  try clear c18
  try clear c20
  try clear hcz11_0
  try clear hcz11_1
  try clear hcz11_2
  try clear hcz16_0
  try clear hcz16_1
  try clear hcz19_0
  try clear hcz19_1
  try clear hcz21_0
  try clear hcz21_1
  try clear hfz11_0
  try clear hfz11_1
  try clear hfz11_2
  try clear hfz16_0
  try clear hfz16_1
  try clear hfz19_0
  try clear hfz19_1
  try clear hfz21_0
  try clear hfz21_1
  obtain ⟨kq, x44_6, rfl, HA, HJ6, HO_14, BK272, BK273, HB⟩ := hcut
  cases kq with
  | zero => exact absurd HA.out (by simp [stickfulref26_Cut.j0])
  | succ kj6 =>
   have H := HA.out
   clear HA
   simp only [stickfulref26_Cut.j0] at H
   by_cases c22 : x44_6 = true
   ·subst c22
    have H1 : (some (0, 0, false, 2)) = some (r1, r2, r3, r4) := by rw [if_pos rfl] at H; exact H
    clear H
    have H := H1
    clear H1
    simp only [Option.some.injEq, Prod.mk.injEq] at H
    obtain ⟨rfl, rfl, rfl, rfl⟩ := H
    go_wp2
    refine bodyPost_ret (results_list (rs := [.tmp 10, .tmp 11, .tmp 12, .tmp 13]) rfl (by simp) (.tmp (.tmp (.tmp (.tmp .nil))))) rfl ?_
    exact ⟨by first | rfl | (simp [errW_none, errW_some] <;> rfl) | (simp [*, errW_none, errW_some] <;> rfl), by repeat (first | (with_reducible first | exact HB.out | apply below_alloc | apply pw_below_drewN | apply below_drew1 | refine below_set ?_ GE272.out | refine below_set ?_ GE273.out) | exact HB.out)⟩
   ·replace c22 := Bool.eq_false_iff.mpr c22
    subst c22
    have H1 : (if 0 ≤ a2_0 then (if a2_0 ≤ a2_1 then (if a2_1 ≤ (l0.length : Int) then ((some ((l0.take (a2_1 : Int).toNat).drop (a2_0 : Int).toNat : List (S53))).bind fun y278 => ((stickfulref13_Fits.f kj6 y278 a3_1).bind fun bt282 => (if bt282.2 = 0 then ((stickfulref13_Roles.f kj6 y278).bind fun t284 => ((stickfulref12_Pens.f kj6 y278 t284 a3_1).bind fun bt287 => (if bt287.2 = 0 then (if bt282.1 ≤ a3_0 then (if 0 ≤ (y278.length : Int) then (if (y278.length : Int) < (bt287.1.length : Int) then (some (a2_1, rd bt287.1 (y278.length : Int), false, 0)) else (none)) else (none)) else (stickfulref26_Cut.l0 kj6 a4 t274 bt287.1 a2_0 0 a2_0 a2_1 a2_2 a3_0 a3_1)) else (some (0, 0, false, bt287.2))))) else (some (0, 0, false, bt282.2))))) else (none)) else (none)) else (none)) = some (r1, r2, r3, r4) := by rw [if_neg (show ¬ (false = true) by decide)] at H; exact H
    clear H
    have H := H1
    clear H1
    by_cases c23 : 0 ≤ a2_0
    ·rw [if_pos c23] at H
     have c23b0 := eq_true c23
     have c23b1 : decide (0 ≤ a2_0) = true := decide_eq_true c23
     clear c23
     by_cases c24 : a2_0 ≤ a2_1
     ·rw [if_pos c24] at H
      have c24b0 := eq_true c24
      have c24b1 : decide (a2_0 ≤ a2_1) = true := decide_eq_true c24
      clear c24
      by_cases c25 : a2_1 ≤ (l0.length : Int)
      ·rw [if_pos c25] at H
       have c25b0 := eq_true c25
       have c25b1 : decide (a2_1 ≤ (l0.length : Int)) = true := decide_eq_true c25
       clear c25
       obtain ⟨y278, hy278⟩ : ∃ y_ : List (S53), y_ = ((l0.take (a2_1 : Int).toNat).drop (a2_0 : Int).toNat) := ⟨_, rfl⟩
       replace H : ((stickfulref13_Fits.f kj6 y278 a3_1).bind fun bt282 => (if bt282.2 = 0 then ((stickfulref13_Roles.f kj6 y278).bind fun t284 => ((stickfulref12_Pens.f kj6 y278 t284 a3_1).bind fun bt287 => (if bt287.2 = 0 then (if bt282.1 ≤ a3_0 then (if 0 ≤ (y278.length : Int) then (if (y278.length : Int) < (bt287.1.length : Int) then (some (a2_1, rd bt287.1 (y278.length : Int), false, 0)) else (none)) else (none)) else (stickfulref26_Cut.l0 kj6 a4 t274 bt287.1 a2_0 0 a2_0 a2_1 a2_2 a3_0 a3_1)) else (some (0, 0, false, bt287.2))))) else (some (0, 0, false, bt282.2)))) = some (r1, r2, r3, r4) := by first | (rw [hy278]; with_reducible exact H) | (have H2_ := (Option.bind_some _ _).symm.trans H; rw [hy278]; with_reducible exact H2_) | (have H2_ := (Option.bind_some _ _).symm.trans H; with_reducible exact H2_) | with_reducible exact H | (rw [hy278]; exact H) | exact H
       have Ny278 := Aside0.mk hy278
       clear hy278
       replace H := Option.bind_eq_some_iff.mp H
       obtain ⟨⟨t282, t283⟩, A260, H⟩ := H
       replace H : (if t283 = 0 then ((stickfulref13_Roles.f kj6 y278).bind fun t284 => ((stickfulref12_Pens.f kj6 y278 t284 a3_1).bind fun bt287 => (if bt287.2 = 0 then (if t282 ≤ a3_0 then (if 0 ≤ (y278.length : Int) then (if (y278.length : Int) < (bt287.1.length : Int) then (some (a2_1, rd bt287.1 (y278.length : Int), false, 0)) else (none)) else (none)) else (stickfulref26_Cut.l0 kj6 a4 t274 bt287.1 a2_0 0 a2_0 a2_1 a2_2 a3_0 a3_1)) else (some (0, 0, false, bt287.2))))) else (some (0, 0, false, t283))) = some (r1, r2, r3, r4) := H
       have A26 := Aside0.mk A260
       clear A260
       by_cases c27 : t283 = 0
       ·rw [if_pos c27] at H
        have c27b0 : (t283 == 0) = true := beq_iff_eq.mpr c27
        have c27b1 : (t283 != 0) = false := bne_eq_false_iff_eq.mpr c27
        clear c27
        replace H := Option.bind_eq_some_iff.mp H
        obtain ⟨t284, A280, H⟩ := H
        replace H : ((stickfulref12_Pens.f kj6 y278 t284 a3_1).bind fun bt287 => (if bt287.2 = 0 then (if t282 ≤ a3_0 then (if 0 ≤ (y278.length : Int) then (if (y278.length : Int) < (bt287.1.length : Int) then (some (a2_1, rd bt287.1 (y278.length : Int), false, 0)) else (none)) else (none)) else (stickfulref26_Cut.l0 kj6 a4 t274 bt287.1 a2_0 0 a2_0 a2_1 a2_2 a3_0 a3_1)) else (some (0, 0, false, bt287.2)))) = some (r1, r2, r3, r4) := H
        have A28 := Aside0.mk A280
        clear A280
        replace H := Option.bind_eq_some_iff.mp H
        obtain ⟨⟨t287, t288⟩, A290, H⟩ := H
        replace H : (if t288 = 0 then (if t282 ≤ a3_0 then (if 0 ≤ (y278.length : Int) then (if (y278.length : Int) < (t287.length : Int) then (some (a2_1, rd t287 (y278.length : Int), false, 0)) else (none)) else (none)) else (stickfulref26_Cut.l0 kj6 a4 t274 t287 a2_0 0 a2_0 a2_1 a2_2 a3_0 a3_1)) else (some (0, 0, false, t288))) = some (r1, r2, r3, r4) := H
        have A29 := Aside0.mk A290
        clear A290
        by_cases c30 : t288 = 0
        ·rw [if_pos c30] at H
         have c30b0 : (t288 == 0) = true := beq_iff_eq.mpr c30
         have c30b1 : (t288 != 0) = false := bne_eq_false_iff_eq.mpr c30
         clear c30
         by_cases c31 : t282 ≤ a3_0
         ·rw [if_pos c31] at H
          have c31b0 : decide (t282 ≤ a3_0) = true := decide_eq_true c31
          clear c31
          by_cases c32 : 0 ≤ (y278.length : Int)
          ·rw [if_pos c32] at H
           have c32b0 : decide (0 ≤ (y278.length : Int)) = true := decide_eq_true c32
           have c32b1 : decide (0 ≤ y278.length) = true := decide_eq_true (by omega)
           clear c32
           by_cases c33 : (y278.length : Int) < (t287.length : Int)
           ·rw [if_pos c33] at H
            have c33b0 : decide ((y278.length : Int) < (t287.length : Int)) = true := decide_eq_true c33
            have c33b1 : decide (y278.length < t287.length) = true := decide_eq_true (Int.ofNat_lt.mp c33)
            clear c33
            simp only [Option.some.injEq, Prod.mk.injEq] at H
            obtain ⟨rfl, rfl, rfl, rfl⟩ := H
            have hnb34 := NB272_273.out
            have hnc34 := NB273_272.out
            obtain ⟨hcz35_0, hcz35_1, hcz35_2⟩ := cz3 BK272
            obtain ⟨hfz35_0, hfz35_1, hfz35_2⟩ := fz3 BK272
            have q36 : (a2_1 : Int) ≤ ((l0.length : Int) : Int) := of_decide_eq_true (by first | (with_reducible assumption) | assumption)
            obtain ⟨i036, hi036, _, hsz36, _⟩ := info_parts info53
            have hroom36 : l0.length ≤ c0 := HC0.out
            have hC36 : Kd.C k53 _ A0 l0.length l0 := HR0.out
            have ql36 : (a2_0 : Int) ≤ (a2_1 : Int) := of_decide_eq_true (by first | (with_reducible assumption) | assumption)
            have q036 : (0 : Int) ≤ (a2_0 : Int) := of_decide_eq_true (by first | (with_reducible assumption) | assumption)
            have hcut36 := cut_mid (P := Try.prog) 22 53 .i64 .i64 Try.underlying22 hi036 6 hsz36 A0 l0.length c0 a2_0 a2_1 q036 ql36 q36 hroom36
            have hr36 := Kd.C_mid (lo := (a2_0 : Int).toNat) (hi := (a2_1 : Int).toNat) (c := c0) hC36 (by omega) (by omega) hroom36
            obtain ⟨A36, hA36⟩ : ∃ A1, A1 = (if c0 = (a2_0 : Int).toNat then A0 else (A0 : Option Addr).map (·.add ((a2_0 : Int).toNat * 6))) := ⟨_, rfl⟩
            obtain ⟨c36, hc36⟩ : ∃ c1, c1 = c0 - (a2_0 : Int).toNat := ⟨_, rfl⟩
            have hy36 : y278.length = (a2_1 : Int).toNat - (a2_0 : Int).toNat := (by rw [Ny278.out, List.length_drop, List.length_take] <;> omega)
            rw [show ((l0).take (a2_1 : Int).toNat).drop (a2_0 : Int).toNat = y278 from Ny278.out.symm] at hr36
            replace hr36 : Kd.C k53 _ A36 y278.length y278 := (by rw [hA36]; exact hr36)
            rw [← hy36, ← hA36, ← hc36] at hcut36
            have HR281 := Aside0.mk hr36
            have HC281 := Aside0.mk (show y278.length ≤ c36 from by rw [hy36, hc36]; exact Nat.sub_le_sub_right (Nat.le_trans (by omega) hroom36) _)
            clear hr36 hC36 hroom36 hi036 hsz36 hc36
            have KY36 := Aside0.mk hy36
            have KA36 := Aside0.mk hA36
            clear hy36 hA36
            replace q36 := eq_true q36
            obtain ⟨hcz37_0, hcz37_1⟩ := cz2 BK273
            obtain ⟨hfz37_0, hfz37_1⟩ := fz2 BK273
            try go_wp2_with (first | ((with_reducible refine gate_callee (f := 27) rfl ?_); refine goesB (some 55) rfl rfl Try.func27 #[.slice A36 y278.length c36, .int .i64 a3_1] rfl ?_; (with_reducible refine (stickfulref13_Fits.calls kj6 _ _ y278 a3_1 t282 t283 _ ?side1 ?side2 A26.out).mono ?_); (case side1 => repeat (first | exact (Kd.C_below HR281.out HB.out) | (with_reducible refine Kd.C_alloc ?_ _) | (with_reducible refine Kd.C_drewN ?_ _) | (with_reducible refine Kd.C_drew ?_))); (case side2 => exact HC281.out); rintro e w38 ⟨rfl, hb⟩; refine ⟨_, rfl, ?_⟩; replace HO_14 := Aside0.mk (Kd.R_below (rx HO_14) hb); replace BK272 := bb BK272 hb; replace BK273 := bb BK273 hb; replace HB := bh HB hb; (try clear hb); (try clear hb2); (try clear hk); (try clear hi)))
            replace HO_14 := Aside0.mk (Kd.R_drew HO_14.out)
            replace BK272 := Aside0.mk (blk_drew BK272.out)
            replace BK273 := Aside0.mk (blk_drew BK273.out)
            replace HB := Aside0.mk (below_drew1 HB.out)
            refine start_ (n := 11) (S := fun w' => w'.cell? ⟨gb273, 0, none⟩ = some (.int .i64 a3_0) ∧ w'.cell? ⟨gb273, 1, none⟩ = some (.int .i64 a3_1)) (ds := []) (stickfulref26_Cut.bm 11 0) (by kernel_rfl) rfl rfl ⟨bc BK273 0, bc BK273 1⟩ (fun hHeld => ?_); refine with_tabW stickfulref26_Cut.tab8 stickfulref26_Cut.bits8 (fun HT_ HW_ => ?_)
            generalize w38.drew = w39 at HO_14 BK272 BK273 HB hHeld ⊢
            refine pure_ (i := 0) (N := some 62) (v := ?_) (a' := ?_) (stickfulref26_Cut.bm 11 1) rfl rfl (any_of HT_.out (by kernel_rfl)) (fun _ _ _ h => h) (Or.inl ⟨by rfl, ?_⟩) ?_ ?_
            rotate_left; (focus intro w'; go_simp; with_reducible rfl); rotate_left; (focus simp only [Act.put, List.setIfInBounds_toArray, List.set_cons_zero, List.set_cons_succ, i64_w, i32_w]; rfl)
            refine pure_ (i := 1) (N := some 63) (v := ?_) (a' := ?_) (stickfulref26_Cut.bm 11 3) rfl rfl (any_of HT_.out (by kernel_rfl)) (fun _ _ _ h => h) (Or.inl ⟨by rfl, ?_⟩) ?_ ?_
            rotate_left; (focus intro w'; go_simp; with_reducible rfl); rotate_left; (focus simp only [Act.put, List.setIfInBounds_toArray, List.set_cons_zero, List.set_cons_succ, i64_w, i32_w]; rfl)
            refine pure_ (i := 3) (N := some 65) (v := ?_) (a' := ?_) (stickfulref26_Cut.bm 11 11) rfl rfl (any_of HT_.out (by kernel_rfl)) (fun _ _ _ h => h) (Or.inl ⟨by rfl, ?_⟩) ?_ ?_
            rotate_left; (focus intro w'; go_simp; with_reducible rfl); rotate_left; (focus simp only [Act.put, List.setIfInBounds_toArray, List.set_cons_zero, List.set_cons_succ, i64_w, i32_w]; rfl)
            refine take_ (i := 4) (N := some 66) (v := ?_) (a' := ?_) (stickfulref26_Cut.bm 11 27) rfl rfl (take_ofW HT_.out HW_.out (by kernel_rfl)) (fun _ _ _ h => h) (Or.inl ⟨by rfl, ?_⟩) hHeld ?_ ?_
            rotate_left; (focus rintro w' ⟨s0, s1⟩; go_simp; with_reducible rfl); rotate_left; (focus simp only [Act.put, List.setIfInBounds_toArray, List.set_cons_zero, List.set_cons_succ, i64_w, i32_w]; rfl)
            refine one_ (i := 2) (N := some 64) (stickfulref26_Cut.bm 11 31) rfl rfl (one_of HT_.out (by kernel_rfl)) (by decide) (fun K hK => ?_)
            refine goes_ Try.func29 (by kernel_rfl) rfl #[.slice A36 y278.length c36] (by rfl) rfl rfl (by (try simp only [List.map_toArray, List.map_cons, List.map_nil]); first | done | rfl | (simp only [List.length_drop, List.length_take]; rfl)) ?_
            with_reducible refine (stickfulref13_Roles.calls kj6 _ _ y278 t284 _ ?side1 ?side2 A28.out).mono ?_
            (case side1 => repeat (first | exact (Kd.C_below HR281.out HB.out) | (with_reducible refine Kd.C_alloc ?_ _) | (with_reducible refine Kd.C_drewN ?_ _) | (with_reducible refine Kd.C_drew ?_)))
            (case side2 => exact HC281.out)
            rintro e w40 ⟨v285, rfl, ho0, hb⟩
            refine ⟨_, rfl, ?_⟩
            replace HO_14 := Aside0.mk (Kd.R_below (rx HO_14) hb)
            have HO286 := Aside0.mk (Kd.R_lower ho0 (below_size (bw HB)))
            replace BK272 := bb BK272 hb
            replace BK273 := bb BK273 hb
            replace HB := bh HB hb
            (try clear hb)
            (try clear hb2)
            (try clear hk)
            (try clear hi)
            (try clear ho0)
            obtain ⟨Ao41, co41, eo41⟩ := Kd.R_slice HO286.out
            (first | subst eo41 | (injection eo41 with f1_ f2_ f3_; have f4_ := f1_.symm; have f5_ := f3_.symm; clear f1_ f2_ f3_; subst f4_; subst f5_))
            refine hK.out _ _ ⟨bc BK273 0, bc BK273 1⟩ (fun hHeld => ?_)
            clear hK K
            refine norm_ (a' := ?_) ?_ ?_
            rotate_left; (focus show Act.put _ (some 64) _ = _; simp only [Act.put, List.setIfInBounds_toArray, List.set_cons_zero, List.set_cons_succ, i64_w, i32_w]; rfl)
            refine one_ (i := 5) (N := some 67) (stickfulref26_Cut.bm 11 63) rfl rfl (one_of HT_.out (by kernel_rfl)) (by decide) (fun K hK => ?_)
            refine goes_ Try.func28 (by kernel_rfl) rfl #[.slice A36 y278.length c36, .slice Ao41 t284.length co41, .int .i64 a3_1] (by rfl) rfl rfl (by (try simp only [List.map_toArray, List.map_cons, List.map_nil]); first | done | rfl | (simp only [List.length_drop, List.length_take]; rfl)) ?_
            with_reducible refine (stickfulref12_Pens.calls kj6 _ _ y278 _ _ t284 a3_1 t287 t288 _ ?side1 ?side2 ?side3 ?side4 A29.out).mono ?_
            (case side1 => repeat (first | exact (Kd.C_below HR281.out HB.out) | (with_reducible refine Kd.C_alloc ?_ _) | (with_reducible refine Kd.C_drewN ?_ _) | (with_reducible refine Kd.C_drew ?_)))
            (case side2 => exact HC281.out)
            (case side3 => repeat (first | exact (Kd.R_reads' HO286.out).2.2 | (with_reducible refine Kd.C_alloc ?_ _) | (with_reducible refine Kd.C_drewN ?_ _) | (with_reducible refine Kd.C_drew ?_)))
            (case side4 => exact (Kd.R_reads' HO286.out).2.1)
            rintro e w42 ⟨v289, rfl, ho0, hb⟩
            refine ⟨_, rfl, ?_⟩
            replace HO_14 := Aside0.mk (Kd.R_below (rx HO_14) hb)
            replace HO286 := Aside0.mk (Kd.R_below (rx HO286) hb)
            have HO290 := Aside0.mk (Kd.R_lower ho0 (below_size (bw HB)))
            replace BK272 := bb BK272 hb
            replace BK273 := bb BK273 hb
            replace HB := bh HB hb
            (try clear hb)
            (try clear hb2)
            (try clear hk)
            (try clear hi)
            (try clear ho0)
            refine hK.out _ _ ⟨bc BK273 0, bc BK273 1⟩ (fun hHeld => ?_)
            clear hK K
            refine norm_ (a' := ?_) ?_ ?_
            rotate_left; (focus show Act.put _ (some 67) _ = _; simp only [Act.put, List.setIfInBounds_toArray, List.set_cons_zero, List.set_cons_succ, i64_w, i32_w]; rfl)
            refine pure_ (i := 6) (N := some 61) (v := ?_) (a' := ?_) (stickfulref26_Cut.bm 11 127) rfl rfl (any_of HT_.out (by kernel_rfl)) (fun _ _ _ h => h) (Or.inl ⟨by rfl, ?_⟩) ?_ ?_
            rotate_left; (focus intro w'; go_simp; with_reducible rfl); rotate_left; (focus simp only [Act.put, List.setIfInBounds_toArray, List.set_cons_zero, List.set_cons_succ, i64_w, i32_w]; rfl)
            refine pure_ (i := 7) (N := some 68) (v := ?_) (a' := ?_) (stickfulref26_Cut.bm 11 255) rfl rfl (any_of HT_.out (by kernel_rfl)) (fun _ _ _ h => h) (Or.inl ⟨by rfl, ?_⟩) ?_ ?_
            rotate_left; (focus intro w'; go_simp; with_reducible rfl); rotate_left; (focus simp only [Act.put, List.setIfInBounds_toArray, List.set_cons_zero, List.set_cons_succ, i64_w, i32_w]; rfl)
            refine pure_ (i := 8) (N := some 69) (v := ?_) (a' := ?_) (stickfulref26_Cut.bm 11 511) rfl rfl (any_of HT_.out (by kernel_rfl)) (fun _ _ _ h => h) (Or.inl ⟨by rfl, ?_⟩) ?_ ?_
            rotate_left; (focus intro w'; go_simp; with_reducible rfl); rotate_left; (focus simp only [Act.put, List.setIfInBounds_toArray, List.set_cons_zero, List.set_cons_succ, i64_w, i32_w]; rfl)
            refine pure_ (i := 9) (N := some 19) (v := ?_) (a' := ?_) (stickfulref26_Cut.bm 11 1023) rfl rfl (any_of HT_.out (by kernel_rfl)) (fun _ _ _ h => h) (Or.inl ⟨by rfl, ?_⟩) ?_ ?_
            rotate_left; (focus intro w'; go_simp; with_reducible rfl); rotate_left; (focus simp only [Act.put, List.setIfInBounds_toArray, List.set_cons_zero, List.set_cons_succ, i64_w, i32_w]; rfl)
            refine pure_ (i := 10) (N := some 20) (v := ?_) (a' := ?_) (stickfulref26_Cut.bm 11 2047) rfl rfl (any_of HT_.out (by kernel_rfl)) (fun _ _ _ h => h) (Or.inl ⟨by rfl, ?_⟩) ?_ ?_
            rotate_left; (focus intro w'; go_simp; with_reducible rfl); rotate_left; (focus simp only [Act.put, List.setIfInBounds_toArray, List.set_cons_zero, List.set_cons_succ, i64_w, i32_w]; rfl)
            refine done_ (done_of HT_.out (by kernel_rfl)) ?_
            obtain ⟨hcz43_0, hcz43_1⟩ := cz2 BK273
            obtain ⟨hfz43_0, hfz43_1⟩ := fz2 BK273
            try go_wp2
            replace HO_14 := Aside0.mk (Kd.R_drew HO_14.out)
            replace HO286 := Aside0.mk (Kd.R_drew HO286.out)
            replace HO290 := Aside0.mk (Kd.R_drew HO290.out)
            replace BK272 := Aside0.mk (blk_drew BK272.out)
            replace BK273 := Aside0.mk (blk_drew BK273.out)
            replace HB := Aside0.mk (below_drew1 HB.out)
            obtain ⟨Ao45, co45, eo45⟩ := Kd.R_slice HO290.out
            (first | subst eo45 | (injection eo45 with f1_ f2_ f3_; have f4_ := f1_.symm; have f5_ := f3_.symm; clear f1_ f2_ f3_; subst f4_; subst f5_))
            have p291 : 0 ≤ ((y278.length : Int) : Int) := of_decide_eq_true (by first | (with_reducible assumption) | assumption)
            have q291 : (y278.length : Int) < (t287.length : Int) := of_decide_eq_true (by first | (with_reducible assumption) | assumption)
            obtain ⟨ad291, e291, hx291_0⟩ := Kd.at_int (Kd.R_reads' HO290.out).2.2 (y278.length : Int) p291 q291
            cases e291
            (try simp only [Go.IntWalk.toNatUp] at hx291_0)
            replace p291 := eq_true p291
            replace q291 := eq_true q291
            refine start_ (n := 11) (S := fun w' => w'.cell? ⟨gb272, 0, none⟩ = some (.int .i64 a2_0) ∧ w'.cell? ⟨gb272, 1, none⟩ = some (.int .i64 a2_1) ∧ w'.cell? ⟨gb272, 2, none⟩ = some (.bool a2_2) ∧ w'.cell? (ad291.add ((y278.length : Int)).toNat) = some (.int .i64 (rd t287 (y278.length : Int)))) (ds := []) (stickfulref26_Cut.bm 11 0) (by kernel_rfl) rfl rfl ⟨bc BK272 0, bc BK272 1, bc BK272 2, hx291_0⟩ (fun hHeld => ?_); refine with_tabW stickfulref26_Cut.tab12 stickfulref26_Cut.bits12 (fun HT_ HW_ => ?_)
            generalize w42.drew = w44 at HO_14 HO286 HO290 BK272 BK273 HB hx291_0 hHeld ⊢
            refine pure_ (i := 0) (N := some 77) (v := ?_) (a' := ?_) (stickfulref26_Cut.bm 11 1) rfl rfl (any_of HT_.out (by kernel_rfl)) (fun _ _ _ h => h) (Or.inl ⟨by rfl, ?_⟩) ?_ ?_
            rotate_left; (focus intro w'; go_simp; with_reducible rfl); rotate_left; (focus simp only [Act.put, List.setIfInBounds_toArray, List.set_cons_zero, List.set_cons_succ, i64_w, i32_w]; rfl)
            refine pure_ (i := 2) (N := some 79) (v := ?_) (a' := ?_) (stickfulref26_Cut.bm 11 5) rfl rfl (any_of HT_.out (by kernel_rfl)) (fun _ _ _ h => h) (Or.inl ⟨by rfl, ?_⟩) ?_ ?_
            rotate_left; (focus intro w'; go_simp; with_reducible rfl); rotate_left; (focus simp only [Act.put, List.setIfInBounds_toArray, List.set_cons_zero, List.set_cons_succ, i64_w, i32_w]; rfl)
            refine pure_ (i := 3) (N := some 80) (v := ?_) (a' := ?_) (stickfulref26_Cut.bm 11 13) rfl rfl (any_of HT_.out (by kernel_rfl)) (fun _ _ _ h => h) (Or.inl ⟨by rfl, ?_⟩) ?_ ?_
            rotate_left; (focus intro w'; go_simp; with_reducible rfl); rotate_left; (focus simp only [Act.put, List.setIfInBounds_toArray, List.set_cons_zero, List.set_cons_succ, i64_w, i32_w]; rfl)
            refine pure_ (i := 4) (N := some 81) (v := ?_) (a' := ?_) (stickfulref26_Cut.bm 11 29) rfl rfl (any_of HT_.out (by kernel_rfl)) (fun _ _ _ h => h) (Or.inl ⟨by rfl, ?_⟩) ?_ ?_
            rotate_left; (focus intro w'; go_simp; with_reducible rfl); rotate_left; (focus simp only [Act.put, List.setIfInBounds_toArray, List.set_cons_zero, List.set_cons_succ, i64_w, i32_w]; rfl)
            refine pure_ (i := 5) (N := some 82) (v := ?_) (a' := ?_) (stickfulref26_Cut.bm 11 61) rfl rfl (any_of HT_.out (by kernel_rfl)) (fun _ _ _ h => h) (Or.inl ⟨by rfl, ?_⟩) ?_ ?_
            rotate_left; (focus intro w'; go_simp; with_reducible rfl); rotate_left; (focus simp only [Act.put, List.setIfInBounds_toArray, List.set_cons_zero, List.set_cons_succ, i64_w, i32_w]; rfl)
            refine take_ (i := 1) (N := some 78) (v := ?_) (a' := ?_) (stickfulref26_Cut.bm 11 63) rfl rfl (take_ofW HT_.out HW_.out (by kernel_rfl)) (fun _ _ _ h => h) (Or.inl ⟨by rfl, ?_⟩) hHeld ?_ ?_
            rotate_left; (focus rintro w' ⟨s0, s1, s2, s3⟩; (try simp only [Int.toNat_natCast] at s3); go_simp; with_reducible rfl); rotate_left; (focus simp only [Act.put, List.setIfInBounds_toArray, List.set_cons_zero, List.set_cons_succ, i64_w, i32_w]; rfl)
            refine pure_ (i := 7) (N := some 10) (v := ?_) (a' := ?_) (stickfulref26_Cut.bm 11 191) rfl rfl (any_of HT_.out (by kernel_rfl)) (fun _ _ _ h => h) (Or.inl ⟨by rfl, ?_⟩) ?_ ?_
            rotate_left; (focus intro w'; go_simp; with_reducible rfl); rotate_left; (focus simp only [Act.put, List.setIfInBounds_toArray, List.set_cons_zero, List.set_cons_succ, i64_w, i32_w]; rfl)
            refine take_ (i := 6) (N := some 83) (v := ?_) (a' := ?_) (stickfulref26_Cut.bm 11 255) rfl rfl (take_ofW HT_.out HW_.out (by kernel_rfl)) (fun _ _ _ h => h) (Or.inl ⟨by rfl, ?_⟩) hHeld ?_ ?_
            rotate_left; (focus rintro w' ⟨s0, s1, s2, s3⟩; (try simp only [Int.toNat_natCast] at s3); go_simp; with_reducible rfl); rotate_left; (focus simp only [Act.put, List.setIfInBounds_toArray, List.set_cons_zero, List.set_cons_succ, i64_w, i32_w]; rfl)
            refine pure_ (i := 8) (N := some 11) (v := ?_) (a' := ?_) (stickfulref26_Cut.bm 11 511) rfl rfl (any_of HT_.out (by kernel_rfl)) (fun _ _ _ h => h) (Or.inl ⟨by rfl, ?_⟩) ?_ ?_
            rotate_left; (focus intro w'; go_simp; with_reducible rfl); rotate_left; (focus simp only [Act.put, List.setIfInBounds_toArray, List.set_cons_zero, List.set_cons_succ, i64_w, i32_w]; rfl)
            refine pure_ (i := 9) (N := some 12) (v := ?_) (a' := ?_) (stickfulref26_Cut.bm 11 1023) rfl rfl (any_of HT_.out (by kernel_rfl)) (fun _ _ _ h => h) (Or.inl ⟨by rfl, ?_⟩) ?_ ?_
            rotate_left; (focus intro w'; go_simp; with_reducible rfl); rotate_left; (focus simp only [Act.put, List.setIfInBounds_toArray, List.set_cons_zero, List.set_cons_succ, i64_w, i32_w]; rfl)
            refine pure_ (i := 10) (N := some 13) (v := ?_) (a' := ?_) (stickfulref26_Cut.bm 11 2047) rfl rfl (any_of HT_.out (by kernel_rfl)) (fun _ _ _ h => h) (Or.inl ⟨by rfl, ?_⟩) ?_ ?_
            rotate_left; (focus intro w'; go_simp; with_reducible rfl); rotate_left; (focus simp only [Act.put, List.setIfInBounds_toArray, List.set_cons_zero, List.set_cons_succ, i64_w, i32_w]; rfl)
            refine done_ (done_of HT_.out (by kernel_rfl)) ?_
            try go_wp2
            refine bodyPost_ret (results_list (rs := [.tmp 10, .tmp 11, .tmp 12, .tmp 13]) rfl (by simp) (.tmp (.tmp (.tmp (.tmp .nil))))) rfl ?_
            exact ⟨by first | rfl | (simp [errW_none, errW_some] <;> rfl) | (simp [*, errW_none, errW_some] <;> rfl), by repeat (first | (with_reducible first | exact HB.out | apply below_alloc | apply pw_below_drewN | apply below_drew1 | refine below_set ?_ GE272.out | refine below_set ?_ GE273.out) | exact HB.out)⟩
           ·rw [if_neg c33] at H
            exact absurd H (by simp)
          ·rw [if_neg c32] at H
           exact absurd H (by simp)
         ·rw [if_neg c31] at H
          have c31b0 : decide (t282 ≤ a3_0) = false := decide_eq_false c31
          clear c31
          have H' := Aside0.mk H
          clear H
          have hnb46 := NB272_273.out
          have hnc46 := NB273_272.out
          obtain ⟨hcz47_0, hcz47_1, hcz47_2⟩ := cz3 BK272
          obtain ⟨hfz47_0, hfz47_1, hfz47_2⟩ := fz3 BK272
          have q48 : (a2_1 : Int) ≤ ((l0.length : Int) : Int) := of_decide_eq_true (by first | (with_reducible assumption) | assumption)
          obtain ⟨i048, hi048, _, hsz48, _⟩ := info_parts info53
          have hroom48 : l0.length ≤ c0 := HC0.out
          have hC48 : Kd.C k53 _ A0 l0.length l0 := HR0.out
          have ql48 : (a2_0 : Int) ≤ (a2_1 : Int) := of_decide_eq_true (by first | (with_reducible assumption) | assumption)
          have q048 : (0 : Int) ≤ (a2_0 : Int) := of_decide_eq_true (by first | (with_reducible assumption) | assumption)
          have hcut48 := cut_mid (P := Try.prog) 22 53 .i64 .i64 Try.underlying22 hi048 6 hsz48 A0 l0.length c0 a2_0 a2_1 q048 ql48 q48 hroom48
          have hr48 := Kd.C_mid (lo := (a2_0 : Int).toNat) (hi := (a2_1 : Int).toNat) (c := c0) hC48 (by omega) (by omega) hroom48
          obtain ⟨A48, hA48⟩ : ∃ A1, A1 = (if c0 = (a2_0 : Int).toNat then A0 else (A0 : Option Addr).map (·.add ((a2_0 : Int).toNat * 6))) := ⟨_, rfl⟩
          obtain ⟨c48, hc48⟩ : ∃ c1, c1 = c0 - (a2_0 : Int).toNat := ⟨_, rfl⟩
          have hy48 : y278.length = (a2_1 : Int).toNat - (a2_0 : Int).toNat := (by rw [Ny278.out, List.length_drop, List.length_take] <;> omega)
          rw [show ((l0).take (a2_1 : Int).toNat).drop (a2_0 : Int).toNat = y278 from Ny278.out.symm] at hr48
          replace hr48 : Kd.C k53 _ A48 y278.length y278 := (by rw [hA48]; exact hr48)
          rw [← hy48, ← hA48, ← hc48] at hcut48
          have HR281 := Aside0.mk hr48
          have HC281 := Aside0.mk (show y278.length ≤ c48 from by rw [hy48, hc48]; exact Nat.sub_le_sub_right (Nat.le_trans (by omega) hroom48) _)
          clear hr48 hC48 hroom48 hi048 hsz48 hc48
          have KY48 := Aside0.mk hy48
          have KA48 := Aside0.mk hA48
          clear hy48 hA48
          replace q48 := eq_true q48
          obtain ⟨hcz49_0, hcz49_1⟩ := cz2 BK273
          obtain ⟨hfz49_0, hfz49_1⟩ := fz2 BK273
          try go_wp2_with (first | ((with_reducible refine gate_callee (f := 27) rfl ?_); refine goesB (some 55) rfl rfl Try.func27 #[.slice A48 y278.length c48, .int .i64 a3_1] rfl ?_; (with_reducible refine (stickfulref13_Fits.calls kj6 _ _ y278 a3_1 t282 t283 _ ?side1 ?side2 A26.out).mono ?_); (case side1 => repeat (first | exact (Kd.C_below HR281.out HB.out) | (with_reducible refine Kd.C_alloc ?_ _) | (with_reducible refine Kd.C_drewN ?_ _) | (with_reducible refine Kd.C_drew ?_))); (case side2 => exact HC281.out); rintro e w50 ⟨rfl, hb⟩; refine ⟨_, rfl, ?_⟩; replace HO_14 := Aside0.mk (Kd.R_below (rx HO_14) hb); replace BK272 := bb BK272 hb; replace BK273 := bb BK273 hb; replace HB := bh HB hb; (try clear hb); (try clear hb2); (try clear hk); (try clear hi)))
          replace HO_14 := Aside0.mk (Kd.R_drew HO_14.out)
          replace BK272 := Aside0.mk (blk_drew BK272.out)
          replace BK273 := Aside0.mk (blk_drew BK273.out)
          replace HB := Aside0.mk (below_drew1 HB.out)
          refine start_ (n := 11) (S := fun w' => w'.cell? ⟨gb273, 0, none⟩ = some (.int .i64 a3_0) ∧ w'.cell? ⟨gb273, 1, none⟩ = some (.int .i64 a3_1)) (ds := []) (stickfulref26_Cut.bm 11 0) (by kernel_rfl) rfl rfl ⟨bc BK273 0, bc BK273 1⟩ (fun hHeld => ?_); refine with_tabW stickfulref26_Cut.tab8 stickfulref26_Cut.bits8 (fun HT_ HW_ => ?_)
          generalize w50.drew = w51 at HO_14 BK272 BK273 HB hHeld ⊢
          refine pure_ (i := 0) (N := some 62) (v := ?_) (a' := ?_) (stickfulref26_Cut.bm 11 1) rfl rfl (any_of HT_.out (by kernel_rfl)) (fun _ _ _ h => h) (Or.inl ⟨by rfl, ?_⟩) ?_ ?_
          rotate_left; (focus intro w'; go_simp; with_reducible rfl); rotate_left; (focus simp only [Act.put, List.setIfInBounds_toArray, List.set_cons_zero, List.set_cons_succ, i64_w, i32_w]; rfl)
          refine pure_ (i := 1) (N := some 63) (v := ?_) (a' := ?_) (stickfulref26_Cut.bm 11 3) rfl rfl (any_of HT_.out (by kernel_rfl)) (fun _ _ _ h => h) (Or.inl ⟨by rfl, ?_⟩) ?_ ?_
          rotate_left; (focus intro w'; go_simp; with_reducible rfl); rotate_left; (focus simp only [Act.put, List.setIfInBounds_toArray, List.set_cons_zero, List.set_cons_succ, i64_w, i32_w]; rfl)
          refine pure_ (i := 3) (N := some 65) (v := ?_) (a' := ?_) (stickfulref26_Cut.bm 11 11) rfl rfl (any_of HT_.out (by kernel_rfl)) (fun _ _ _ h => h) (Or.inl ⟨by rfl, ?_⟩) ?_ ?_
          rotate_left; (focus intro w'; go_simp; with_reducible rfl); rotate_left; (focus simp only [Act.put, List.setIfInBounds_toArray, List.set_cons_zero, List.set_cons_succ, i64_w, i32_w]; rfl)
          refine take_ (i := 4) (N := some 66) (v := ?_) (a' := ?_) (stickfulref26_Cut.bm 11 27) rfl rfl (take_ofW HT_.out HW_.out (by kernel_rfl)) (fun _ _ _ h => h) (Or.inl ⟨by rfl, ?_⟩) hHeld ?_ ?_
          rotate_left; (focus rintro w' ⟨s0, s1⟩; go_simp; with_reducible rfl); rotate_left; (focus simp only [Act.put, List.setIfInBounds_toArray, List.set_cons_zero, List.set_cons_succ, i64_w, i32_w]; rfl)
          refine one_ (i := 2) (N := some 64) (stickfulref26_Cut.bm 11 31) rfl rfl (one_of HT_.out (by kernel_rfl)) (by decide) (fun K hK => ?_)
          refine goes_ Try.func29 (by kernel_rfl) rfl #[.slice A48 y278.length c48] (by rfl) rfl rfl (by (try simp only [List.map_toArray, List.map_cons, List.map_nil]); first | done | rfl | (simp only [List.length_drop, List.length_take]; rfl)) ?_
          with_reducible refine (stickfulref13_Roles.calls kj6 _ _ y278 t284 _ ?side1 ?side2 A28.out).mono ?_
          (case side1 => repeat (first | exact (Kd.C_below HR281.out HB.out) | (with_reducible refine Kd.C_alloc ?_ _) | (with_reducible refine Kd.C_drewN ?_ _) | (with_reducible refine Kd.C_drew ?_)))
          (case side2 => exact HC281.out)
          rintro e w52 ⟨v285, rfl, ho0, hb⟩
          refine ⟨_, rfl, ?_⟩
          replace HO_14 := Aside0.mk (Kd.R_below (rx HO_14) hb)
          have HO286 := Aside0.mk (Kd.R_lower ho0 (below_size (bw HB)))
          replace BK272 := bb BK272 hb
          replace BK273 := bb BK273 hb
          replace HB := bh HB hb
          (try clear hb)
          (try clear hb2)
          (try clear hk)
          (try clear hi)
          (try clear ho0)
          obtain ⟨Ao53, co53, eo53⟩ := Kd.R_slice HO286.out
          (first | subst eo53 | (injection eo53 with f1_ f2_ f3_; have f4_ := f1_.symm; have f5_ := f3_.symm; clear f1_ f2_ f3_; subst f4_; subst f5_))
          refine hK.out _ _ ⟨bc BK273 0, bc BK273 1⟩ (fun hHeld => ?_)
          clear hK K
          refine norm_ (a' := ?_) ?_ ?_
          rotate_left; (focus show Act.put _ (some 64) _ = _; simp only [Act.put, List.setIfInBounds_toArray, List.set_cons_zero, List.set_cons_succ, i64_w, i32_w]; rfl)
          refine one_ (i := 5) (N := some 67) (stickfulref26_Cut.bm 11 63) rfl rfl (one_of HT_.out (by kernel_rfl)) (by decide) (fun K hK => ?_)
          refine goes_ Try.func28 (by kernel_rfl) rfl #[.slice A48 y278.length c48, .slice Ao53 t284.length co53, .int .i64 a3_1] (by rfl) rfl rfl (by (try simp only [List.map_toArray, List.map_cons, List.map_nil]); first | done | rfl | (simp only [List.length_drop, List.length_take]; rfl)) ?_
          with_reducible refine (stickfulref12_Pens.calls kj6 _ _ y278 _ _ t284 a3_1 t287 t288 _ ?side1 ?side2 ?side3 ?side4 A29.out).mono ?_
          (case side1 => repeat (first | exact (Kd.C_below HR281.out HB.out) | (with_reducible refine Kd.C_alloc ?_ _) | (with_reducible refine Kd.C_drewN ?_ _) | (with_reducible refine Kd.C_drew ?_)))
          (case side2 => exact HC281.out)
          (case side3 => repeat (first | exact (Kd.R_reads' HO286.out).2.2 | (with_reducible refine Kd.C_alloc ?_ _) | (with_reducible refine Kd.C_drewN ?_ _) | (with_reducible refine Kd.C_drew ?_)))
          (case side4 => exact (Kd.R_reads' HO286.out).2.1)
          rintro e w54 ⟨v289, rfl, ho0, hb⟩
          refine ⟨_, rfl, ?_⟩
          replace HO_14 := Aside0.mk (Kd.R_below (rx HO_14) hb)
          replace HO286 := Aside0.mk (Kd.R_below (rx HO286) hb)
          have HO290 := Aside0.mk (Kd.R_lower ho0 (below_size (bw HB)))
          replace BK272 := bb BK272 hb
          replace BK273 := bb BK273 hb
          replace HB := bh HB hb
          (try clear hb)
          (try clear hb2)
          (try clear hk)
          (try clear hi)
          (try clear ho0)
          refine hK.out _ _ ⟨bc BK273 0, bc BK273 1⟩ (fun hHeld => ?_)
          clear hK K
          refine norm_ (a' := ?_) ?_ ?_
          rotate_left; (focus show Act.put _ (some 67) _ = _; simp only [Act.put, List.setIfInBounds_toArray, List.set_cons_zero, List.set_cons_succ, i64_w, i32_w]; rfl)
          refine pure_ (i := 6) (N := some 61) (v := ?_) (a' := ?_) (stickfulref26_Cut.bm 11 127) rfl rfl (any_of HT_.out (by kernel_rfl)) (fun _ _ _ h => h) (Or.inl ⟨by rfl, ?_⟩) ?_ ?_
          rotate_left; (focus intro w'; go_simp; with_reducible rfl); rotate_left; (focus simp only [Act.put, List.setIfInBounds_toArray, List.set_cons_zero, List.set_cons_succ, i64_w, i32_w]; rfl)
          refine pure_ (i := 7) (N := some 68) (v := ?_) (a' := ?_) (stickfulref26_Cut.bm 11 255) rfl rfl (any_of HT_.out (by kernel_rfl)) (fun _ _ _ h => h) (Or.inl ⟨by rfl, ?_⟩) ?_ ?_
          rotate_left; (focus intro w'; go_simp; with_reducible rfl); rotate_left; (focus simp only [Act.put, List.setIfInBounds_toArray, List.set_cons_zero, List.set_cons_succ, i64_w, i32_w]; rfl)
          refine pure_ (i := 8) (N := some 69) (v := ?_) (a' := ?_) (stickfulref26_Cut.bm 11 511) rfl rfl (any_of HT_.out (by kernel_rfl)) (fun _ _ _ h => h) (Or.inl ⟨by rfl, ?_⟩) ?_ ?_
          rotate_left; (focus intro w'; go_simp; with_reducible rfl); rotate_left; (focus simp only [Act.put, List.setIfInBounds_toArray, List.set_cons_zero, List.set_cons_succ, i64_w, i32_w]; rfl)
          refine pure_ (i := 9) (N := some 19) (v := ?_) (a' := ?_) (stickfulref26_Cut.bm 11 1023) rfl rfl (any_of HT_.out (by kernel_rfl)) (fun _ _ _ h => h) (Or.inl ⟨by rfl, ?_⟩) ?_ ?_
          rotate_left; (focus intro w'; go_simp; with_reducible rfl); rotate_left; (focus simp only [Act.put, List.setIfInBounds_toArray, List.set_cons_zero, List.set_cons_succ, i64_w, i32_w]; rfl)
          refine pure_ (i := 10) (N := some 20) (v := ?_) (a' := ?_) (stickfulref26_Cut.bm 11 2047) rfl rfl (any_of HT_.out (by kernel_rfl)) (fun _ _ _ h => h) (Or.inl ⟨by rfl, ?_⟩) ?_ ?_
          rotate_left; (focus intro w'; go_simp; with_reducible rfl); rotate_left; (focus simp only [Act.put, List.setIfInBounds_toArray, List.set_cons_zero, List.set_cons_succ, i64_w, i32_w]; rfl)
          refine done_ (done_of HT_.out (by kernel_rfl)) ?_
          obtain ⟨hcz55_0, hcz55_1⟩ := cz2 BK273
          obtain ⟨hfz55_0, hfz55_1⟩ := fz2 BK273
          obtain ⟨hcz56_0, hcz56_1, hcz56_2⟩ := cz3 BK272
          obtain ⟨hfz56_0, hfz56_1, hfz56_2⟩ := fz3 BK272
          try go_wp2
          go_loopg [21, 22] kj6 (fun kq v21 v22 w' => ∃ (x21_2 x22_2 : Int), v21 = .int .i64 x21_2 ∧ v22 = .int .i64 x22_2 ∧ Aside0 (stickfulref26_Cut.l0 kq a4 t274 t287 x21_2 x22_2 a2_0 a2_1 a2_2 a3_0 a3_1 = some (r1, r2, r3, r4)) ∧ Aside0 (kq ≤ kj6) ∧ Aside0 (Kd.R (Kd.int .i64) 3 w' w.heap.size (fun _ => True) v275 t274) ∧ Aside0 (Kd.R (Kd.int .i64) 2 w' w.heap.size (fun _ => True) v289 t287) ∧ Aside0 (w'.heap[gb272]? = some (.cells #[.int .i64 a2_0, .int .i64 a2_1, .bool a2_2] 25 (0, 0))) ∧ Aside0 (w'.heap[gb273]? = some (.cells #[.int .i64 a3_0, .int .i64 a3_1] 29 (0, 0))) ∧ Aside0 (Below w.heap.size w w'))
          case atStart => exact ⟨(a2_0), (0), (by first | rfl | (simp; done) | (simp [*]; done)), (by first | rfl | (simp; done) | (simp [*]; done)), H', ⟨Nat.le_refl _⟩, ⟨by (with_reducible repeat (first | apply Kd.R_alloc | apply Kd.R_drewN | apply Kd.R_drew)); exact HO_14.out⟩, ⟨by (with_reducible repeat (first | apply Kd.R_alloc | apply Kd.R_drewN | apply Kd.R_drew)); exact HO290.out⟩, ⟨by (with_reducible repeat (first | refine blk_drewN ?_ _ | refine blk_drew ?_ | refine blk_alloc ?_ _)); exact BK272.out⟩, ⟨by (with_reducible repeat (first | refine blk_drewN ?_ _ | refine blk_drew ?_ | refine blk_alloc ?_ _)); exact BK273.out⟩, ⟨by repeat (first | (with_reducible first | exact HB.out | apply below_alloc | apply pw_below_drewN | apply below_drew1 | refine below_set ?_ GE272.out | refine below_set ?_ GE273.out) | exact HB.out)⟩⟩
          case round =>
           clear H'
           try clear c1
           try clear c2
           try clear p2
           try clear q2
           try clear hx2
           try clear c3
           try clear q3
           try clear c4
           try clear q4
           try clear c24
           try clear c24b0
           try clear c24b1
           try clear c25
           try clear c25b0
           try clear c25b1
           try clear c27
           try clear c27b0
           try clear c27b1
           try clear c28
           try clear c29
           try clear p29
           try clear q29
           try clear hx29
           try clear c30
           try clear c30b0
           try clear c30b1
           try clear c31
           try clear c31b0
           try clear c32
           try clear c32b0
           try clear c32b1
           try clear c33
           try clear c33b0
           try clear c33b1
           try clear c34
           try clear c36
           try clear q36
           try clear c46
           try clear c48
           try clear q48
           try clear hcz35_0
           try clear hcz35_1
           try clear hcz35_2
           try clear hcz37_0
           try clear hcz37_1
           try clear hcz43_0
           try clear hcz43_1
           try clear hcz47_0
           try clear hcz47_1
           try clear hcz47_2
           try clear hcz49_0
           try clear hcz49_1
           try clear hcz55_0
           try clear hcz55_1
           try clear hcz56_0
           try clear hcz56_1
           try clear hcz56_2
           try clear hfz35_0
           try clear hfz35_1
           try clear hfz35_2
           try clear hfz37_0
           try clear hfz37_1
           try clear hfz43_0
           try clear hfz43_1
           try clear hfz47_0
           try clear hfz47_1
           try clear hfz47_2
           try clear hfz49_0
           try clear hfz49_1
           try clear hfz55_0
           try clear hfz55_1
           try clear hfz56_0
           try clear hfz56_1
           try clear hfz56_2
           try clear hx291_0
           try clear p291
           try clear q036
           try clear q048
           try clear q291
           try clear q36
           try clear q48
           obtain ⟨x21_2, x22_2, rfl, rfl, HA, HK2, HO_14, HO_19, BK272, BK273, HB⟩ := hrel
           cases gk with
           | zero => exact absurd HA.out (by simp [stickfulref26_Cut.l0])
           | succ k2 =>
            have H := HA.out
            clear HA
            simp only [stickfulref26_Cut.l0] at H
            by_cases c57 : x22_2 < (t274.length : Int)
            ·rw [if_pos c57] at H
             have c57b0 : decide (x22_2 < (t274.length : Int)) = true := decide_eq_true c57
             clear c57
             by_cases c58 : 0 ≤ x22_2
             ·rw [if_pos c58] at H
              have c58b0 : decide (0 ≤ x22_2) = true := decide_eq_true c58
              clear c58
              obtain ⟨ji59, hji59⟩ : ∃ j_ : Int, (wrap64 ((rd t274 x22_2) - a2_0)) = j_ := ⟨_, rfl⟩
              replace H : (if 0 ≤ (ji59) then (if (ji59) < (t287.length : Int) then (if (wrap64 ((rd t287 (ji59)) + a4)) ≤ a3_0 then (stickfulref26_Cut.l0 k2 a4 t274 t287 (rd t274 x22_2) (wrap64 (x22_2 + 1)) a2_0 a2_1 a2_2 a3_0 a3_1) else (stickfulref26_Cut.l0 k2 a4 t274 t287 x21_2 (wrap64 (x22_2 + 1)) a2_0 a2_1 a2_2 a3_0 a3_1)) else (none)) else (none)) = some (r1, r2, r3, r4) := by first | (rw [hji59] at H; exact H) | (simp only [hji59] at H ⊢; exact H)
              have hji59w : (IntKind.i64.wrap ((rd t274 x22_2) - a2_0)) = ji59 := (i64_w _).trans hji59
              by_cases c60 : 0 ≤ (ji59)
              ·rw [if_pos c60] at H
               have c60b0 : decide (0 ≤ (ji59)) = true := decide_eq_true c60
               clear c60
               by_cases c61 : (ji59) < (t287.length : Int)
               ·rw [if_pos c61] at H
                have c61b0 : decide ((ji59) < (t287.length : Int)) = true := decide_eq_true c61
                clear c61
                by_cases c62 : (wrap64 ((rd t287 (ji59)) + a4)) ≤ a3_0
                ·rw [if_pos c62] at H
                 have c62b0 : decide ((wrap64 ((rd t287 (ji59)) + a4)) ≤ a3_0) = true := decide_eq_true c62
                 clear c62
                 have H' := Aside0.mk H
                 clear H
                 obtain ⟨Ao63, co63, eo63⟩ := Kd.R_slice HO_14.out
                 subst eo63
                 try go_wp2
                 replace HO_14 := Aside0.mk (Kd.R_drew HO_14.out)
                 replace HO_19 := Aside0.mk (Kd.R_drew HO_19.out)
                 replace BK272 := Aside0.mk (blk_drew BK272.out)
                 replace BK273 := Aside0.mk (blk_drew BK273.out)
                 replace HB := Aside0.mk (below_drew1 HB.out)
                 have p292 : 0 ≤ (x22_2 : Int) := of_decide_eq_true (by first | (with_reducible assumption) | assumption)
                 have q292 : x22_2 < (t274.length : Int) := of_decide_eq_true (by first | (with_reducible assumption) | assumption)
                 obtain ⟨ad292, e292, hx292_0⟩ := Kd.at_int (Kd.R_reads' HO_14.out).2.2 x22_2 p292 q292
                 cases e292
                 replace p292 := eq_true p292
                 replace q292 := eq_true q292
                 obtain ⟨Ao65, co65, eo65⟩ := Kd.R_slice HO_19.out
                 (first | subst eo65 | (injection eo65 with f1_ f2_ f3_; have f4_ := f1_.symm; have f5_ := f3_.symm; clear f1_ f2_ f3_; subst f4_; subst f5_))
                 have p293 : 0 ≤ ((ji59) : Int) := of_decide_eq_true (by first | (with_reducible assumption) | assumption)
                 have q293 : (ji59) < (t287.length : Int) := of_decide_eq_true (by first | (with_reducible assumption) | assumption)
                 obtain ⟨ad293, e293, hx293_0⟩ := Kd.at_int (Kd.R_reads' HO_19.out).2.2 (ji59) p293 q293
                 cases e293
                 replace p293 := eq_true p293
                 replace q293 := eq_true q293
                 refine start_ (n := 15) (S := fun w' => w'.cell? ⟨gb272, 0, none⟩ = some (.int .i64 a2_0) ∧ w'.cell? ⟨gb272, 1, none⟩ = some (.int .i64 a2_1) ∧ w'.cell? ⟨gb272, 2, none⟩ = some (.bool a2_2) ∧ w'.cell? ⟨gb273, 0, none⟩ = some (.int .i64 a3_0) ∧ w'.cell? ⟨gb273, 1, none⟩ = some (.int .i64 a3_1) ∧ w'.cell? (ad292.add (x22_2).toNat) = some (.int .i64 (rd t274 x22_2)) ∧ w'.cell? (ad293.add ((ji59)).toNat) = some (.int .i64 (rd t287 (ji59)))) (ds := []) (stickfulref26_Cut.bm 15 0) (by kernel_rfl) rfl rfl ⟨bc BK272 0, bc BK272 1, bc BK272 2, bc BK273 0, bc BK273 1, hx292_0, hx293_0⟩ (fun hHeld => ?_); refine with_tabW stickfulref26_Cut.tab17 stickfulref26_Cut.bits17 (fun HT_ HW_ => ?_)
                 generalize wr.drew = w64 at HO_14 HO_19 BK272 BK273 HB hx292_0 hx293_0 hHeld ⊢
                 refine pure_ (i := 0) (N := some 92) (v := ?_) (a' := ?_) (stickfulref26_Cut.bm 15 1) rfl rfl (any_of HT_.out (by kernel_rfl)) (fun _ _ _ h => h) (Or.inl ⟨by rfl, ?_⟩) ?_ ?_
                 rotate_left; (focus intro w'; go_simp; with_reducible rfl); rotate_left; (focus simp only [Act.put, List.setIfInBounds_toArray, List.set_cons_zero, List.set_cons_succ, i64_w, i32_w]; rfl)
                 refine pure_ (i := 1) (N := some 93) (v := ?_) (a' := ?_) (stickfulref26_Cut.bm 15 3) rfl rfl (any_of HT_.out (by kernel_rfl)) (fun _ _ _ h => h) (Or.inl ⟨by rfl, ?_⟩) ?_ ?_
                 rotate_left; (focus intro w'; go_simp; with_reducible rfl); rotate_left; (focus simp only [Act.put, List.setIfInBounds_toArray, List.set_cons_zero, List.set_cons_succ, i64_w, i32_w]; rfl)
                 refine pure_ (i := 2) (N := some 94) (v := ?_) (a' := ?_) (stickfulref26_Cut.bm 15 7) rfl rfl (any_of HT_.out (by kernel_rfl)) (fun _ _ _ h => h) (Or.inl ⟨by rfl, ?_⟩) ?_ ?_
                 rotate_left; (focus intro w'; go_simp; with_reducible rfl); rotate_left; (focus simp only [Act.put, List.setIfInBounds_toArray, List.set_cons_zero, List.set_cons_succ, i64_w, i32_w]; rfl)
                 refine pure_ (i := 3) (N := some 95) (v := ?_) (a' := ?_) (stickfulref26_Cut.bm 15 15) rfl rfl (any_of HT_.out (by kernel_rfl)) (fun _ _ _ h => h) (Or.inl ⟨by rfl, ?_⟩) ?_ ?_
                 rotate_left; (focus intro w'; go_simp; with_reducible rfl); rotate_left; (focus simp only [Act.put, List.setIfInBounds_toArray, List.set_cons_zero, List.set_cons_succ, i64_w, i32_w]; rfl)
                 refine pure_ (i := 5) (N := some 97) (v := ?_) (a' := ?_) (stickfulref26_Cut.bm 15 47) rfl rfl (any_of HT_.out (by kernel_rfl)) (fun _ _ _ h => h) (Or.inl ⟨by rfl, ?_⟩) ?_ ?_
                 rotate_left; (focus intro w'; go_simp; with_reducible rfl); rotate_left; (focus simp only [Act.put, List.setIfInBounds_toArray, List.set_cons_zero, List.set_cons_succ, i64_w, i32_w]; rfl)
                 refine pure_ (i := 10) (N := some 102) (v := ?_) (a' := ?_) (stickfulref26_Cut.bm 15 1071) rfl rfl (any_of HT_.out (by kernel_rfl)) (fun _ _ _ h => h) (Or.inl ⟨by rfl, ?_⟩) ?_ ?_
                 rotate_left; (focus intro w'; go_simp; with_reducible rfl); rotate_left; (focus simp only [Act.put, List.setIfInBounds_toArray, List.set_cons_zero, List.set_cons_succ, i64_w, i32_w]; rfl)
                 refine pure_ (i := 12) (N := some 104) (v := ?_) (a' := ?_) (stickfulref26_Cut.bm 15 5167) rfl rfl (any_of HT_.out (by kernel_rfl)) (fun _ _ _ h => h) (Or.inl ⟨by rfl, ?_⟩) ?_ ?_
                 rotate_left; (focus intro w'; go_simp; with_reducible rfl); rotate_left; (focus simp only [Act.put, List.setIfInBounds_toArray, List.set_cons_zero, List.set_cons_succ, i64_w, i32_w]; rfl)
                 refine take_ (i := 4) (N := some 96) (v := ?_) (a' := ?_) (stickfulref26_Cut.bm 15 5183) rfl rfl (take_ofW HT_.out HW_.out (by kernel_rfl)) (fun _ _ _ h => h) (Or.inl ⟨by rfl, ?_⟩) hHeld ?_ ?_
                 rotate_left; (focus rintro w' ⟨s0, s1, s2, s3, s4, s5, s6⟩; go_simp; with_reducible rfl); rotate_left; (focus simp only [Act.put, List.setIfInBounds_toArray, List.set_cons_zero, List.set_cons_succ, i64_w, i32_w]; rfl)
                 refine take_ (i := 6) (N := some 98) (v := ?_) (a' := ?_) (stickfulref26_Cut.bm 15 5247) rfl rfl (take_ofW HT_.out HW_.out (by kernel_rfl)) (fun _ _ _ h => h) (Or.inl ⟨by rfl, ?_⟩) hHeld ?_ ?_
                 rotate_left; (focus rintro w' ⟨s0, s1, s2, s3, s4, s5, s6⟩; go_simp; with_reducible rfl); rotate_left; (focus simp only [Act.put, List.setIfInBounds_toArray, List.set_cons_zero, List.set_cons_succ, i64_w, i32_w]; rfl)
                 refine pure_ (i := 7) (N := some 99) (v := ?_) (a' := ?_) (stickfulref26_Cut.bm 15 5375) rfl rfl (any_of HT_.out (by kernel_rfl)) (fun _ _ _ h => h) (Or.inl ⟨by rfl, ?_⟩) ?_ ?_
                 rotate_left; (focus intro w'; go_simp; with_reducible rfl); rotate_left; (focus simp only [Act.put, List.setIfInBounds_toArray, List.set_cons_zero, List.set_cons_succ, i64_w, i32_w]; rfl)
                 refine pure_ (i := 8) (N := some 100) (v := ?_) (a' := ?_) (stickfulref26_Cut.bm 15 5631) rfl rfl (any_of HT_.out (by kernel_rfl)) (fun _ _ _ h => h) (Or.inl ⟨by rfl, ?_⟩) ?_ ?_
                 rotate_left; (focus intro w'; go_simp; with_reducible rfl); rotate_left; (focus simp only [Act.put, List.setIfInBounds_toArray, List.set_cons_zero, List.set_cons_succ, i64_w, i32_w]; rfl)
                 refine take_ (i := 9) (N := some 101) (v := ?_) (a' := ?_) (stickfulref26_Cut.bm 15 6143) rfl rfl (take_ofW HT_.out HW_.out (by kernel_rfl)) (fun _ _ _ h => h) (Or.inl ⟨by rfl, ?_⟩) hHeld ?_ ?_
                 rotate_left; (focus rintro w' ⟨s0, s1, s2, s3, s4, s5, s6⟩; go_simp; with_reducible rfl); rotate_left; (focus simp only [Act.put, List.setIfInBounds_toArray, List.set_cons_zero, List.set_cons_succ, i64_w, i32_w]; rfl)
                 refine pure_ (i := 11) (N := some 103) (v := ?_) (a' := ?_) (stickfulref26_Cut.bm 15 8191) rfl rfl (any_of HT_.out (by kernel_rfl)) (fun _ _ _ h => h) (Or.inl ⟨by rfl, ?_⟩) ?_ ?_
                 rotate_left; (focus intro w'; go_simp; with_reducible rfl); rotate_left; (focus simp only [Act.put, List.setIfInBounds_toArray, List.set_cons_zero, List.set_cons_succ, i64_w, i32_w]; rfl)
                 refine take_ (i := 13) (N := some 105) (v := ?_) (a' := ?_) (stickfulref26_Cut.bm 15 16383) rfl rfl (take_ofW HT_.out HW_.out (by kernel_rfl)) (fun _ _ _ h => h) (Or.inl ⟨by rfl, ?_⟩) hHeld ?_ ?_
                 rotate_left; (focus rintro w' ⟨s0, s1, s2, s3, s4, s5, s6⟩; go_simp; with_reducible rfl); rotate_left; (focus simp only [Act.put, List.setIfInBounds_toArray, List.set_cons_zero, List.set_cons_succ, i64_w, i32_w]; rfl)
                 refine pure_ (i := 14) (N := some 106) (v := ?_) (a' := ?_) (stickfulref26_Cut.bm 15 32767) rfl rfl (any_of HT_.out (by kernel_rfl)) (fun _ _ _ h => h) (Or.inl ⟨by rfl, ?_⟩) ?_ ?_
                 rotate_left; (focus intro w'; go_simp; with_reducible rfl); rotate_left; (focus simp only [Act.put, List.setIfInBounds_toArray, List.set_cons_zero, List.set_cons_succ, i64_w, i32_w]; rfl)
                 refine done_ (done_of HT_.out (by kernel_rfl)) ?_
                 have p294 : 0 ≤ (x22_2 : Int) := of_decide_eq_true (by first | (with_reducible assumption) | assumption)
                 have q294 : x22_2 < (t274.length : Int) := of_decide_eq_true (by first | (with_reducible assumption) | assumption)
                 obtain ⟨ad294, e294, hx294_0⟩ := Kd.at_int (Kd.R_reads' HO_14.out).2.2 x22_2 p294 q294
                 obtain rfl : ad292 = ad294 := (by injection e294)
                 replace p294 := eq_true p294
                 replace q294 := eq_true q294
                 try go_wp2
                 go_roundg k2
                 case measure => have := HJ6.out; have := HK2.out; omega
                 case rel => exact ⟨(rd t274 x22_2), (wrap64 (x22_2 + 1)), (by first | rfl | (simp; done) | (simp [*]; done)), (by first | rfl | (simp; done) | (simp [*]; done)), H', ⟨by have := HJ6.out; have := HK2.out; omega⟩, ⟨by (with_reducible repeat (first | apply Kd.R_alloc | apply Kd.R_drewN | apply Kd.R_drew)); exact HO_14.out⟩, ⟨by (with_reducible repeat (first | apply Kd.R_alloc | apply Kd.R_drewN | apply Kd.R_drew)); exact HO_19.out⟩, ⟨by (with_reducible repeat (first | refine blk_drewN ?_ _ | refine blk_drew ?_ | refine blk_alloc ?_ _)); exact BK272.out⟩, ⟨by (with_reducible repeat (first | refine blk_drewN ?_ _ | refine blk_drew ?_ | refine blk_alloc ?_ _)); exact BK273.out⟩, ⟨by repeat (first | (with_reducible first | exact HB.out | apply below_alloc | apply pw_below_drewN | apply below_drew1 | refine below_set ?_ GE272.out | refine below_set ?_ GE273.out) | exact HB.out)⟩⟩
                ·rw [if_neg c62] at H
                 have c62b0 : decide ((wrap64 ((rd t287 (ji59)) + a4)) ≤ a3_0) = false := decide_eq_false c62
                 clear c62
                 have H' := Aside0.mk H
                 clear H
                 obtain ⟨Ao66, co66, eo66⟩ := Kd.R_slice HO_14.out
                 subst eo66
                 try go_wp2
                 replace HO_14 := Aside0.mk (Kd.R_drew HO_14.out)
                 replace HO_19 := Aside0.mk (Kd.R_drew HO_19.out)
                 replace BK272 := Aside0.mk (blk_drew BK272.out)
                 replace BK273 := Aside0.mk (blk_drew BK273.out)
                 replace HB := Aside0.mk (below_drew1 HB.out)
                 have p292 : 0 ≤ (x22_2 : Int) := of_decide_eq_true (by first | (with_reducible assumption) | assumption)
                 have q292 : x22_2 < (t274.length : Int) := of_decide_eq_true (by first | (with_reducible assumption) | assumption)
                 obtain ⟨ad292, e292, hx292_0⟩ := Kd.at_int (Kd.R_reads' HO_14.out).2.2 x22_2 p292 q292
                 cases e292
                 replace p292 := eq_true p292
                 replace q292 := eq_true q292
                 obtain ⟨Ao68, co68, eo68⟩ := Kd.R_slice HO_19.out
                 (first | subst eo68 | (injection eo68 with f1_ f2_ f3_; have f4_ := f1_.symm; have f5_ := f3_.symm; clear f1_ f2_ f3_; subst f4_; subst f5_))
                 have p293 : 0 ≤ ((ji59) : Int) := of_decide_eq_true (by first | (with_reducible assumption) | assumption)
                 have q293 : (ji59) < (t287.length : Int) := of_decide_eq_true (by first | (with_reducible assumption) | assumption)
                 obtain ⟨ad293, e293, hx293_0⟩ := Kd.at_int (Kd.R_reads' HO_19.out).2.2 (ji59) p293 q293
                 cases e293
                 replace p293 := eq_true p293
                 replace q293 := eq_true q293
                 refine start_ (n := 15) (S := fun w' => w'.cell? ⟨gb272, 0, none⟩ = some (.int .i64 a2_0) ∧ w'.cell? ⟨gb272, 1, none⟩ = some (.int .i64 a2_1) ∧ w'.cell? ⟨gb272, 2, none⟩ = some (.bool a2_2) ∧ w'.cell? ⟨gb273, 0, none⟩ = some (.int .i64 a3_0) ∧ w'.cell? ⟨gb273, 1, none⟩ = some (.int .i64 a3_1) ∧ w'.cell? (ad292.add (x22_2).toNat) = some (.int .i64 (rd t274 x22_2)) ∧ w'.cell? (ad293.add ((ji59)).toNat) = some (.int .i64 (rd t287 (ji59)))) (ds := []) (stickfulref26_Cut.bm 15 0) (by kernel_rfl) rfl rfl ⟨bc BK272 0, bc BK272 1, bc BK272 2, bc BK273 0, bc BK273 1, hx292_0, hx293_0⟩ (fun hHeld => ?_); refine with_tabW stickfulref26_Cut.tab17 stickfulref26_Cut.bits17 (fun HT_ HW_ => ?_)
                 generalize wr.drew = w67 at HO_14 HO_19 BK272 BK273 HB hx292_0 hx293_0 hHeld ⊢
                 refine pure_ (i := 0) (N := some 92) (v := ?_) (a' := ?_) (stickfulref26_Cut.bm 15 1) rfl rfl (any_of HT_.out (by kernel_rfl)) (fun _ _ _ h => h) (Or.inl ⟨by rfl, ?_⟩) ?_ ?_
                 rotate_left; (focus intro w'; go_simp; with_reducible rfl); rotate_left; (focus simp only [Act.put, List.setIfInBounds_toArray, List.set_cons_zero, List.set_cons_succ, i64_w, i32_w]; rfl)
                 refine pure_ (i := 1) (N := some 93) (v := ?_) (a' := ?_) (stickfulref26_Cut.bm 15 3) rfl rfl (any_of HT_.out (by kernel_rfl)) (fun _ _ _ h => h) (Or.inl ⟨by rfl, ?_⟩) ?_ ?_
                 rotate_left; (focus intro w'; go_simp; with_reducible rfl); rotate_left; (focus simp only [Act.put, List.setIfInBounds_toArray, List.set_cons_zero, List.set_cons_succ, i64_w, i32_w]; rfl)
                 refine pure_ (i := 2) (N := some 94) (v := ?_) (a' := ?_) (stickfulref26_Cut.bm 15 7) rfl rfl (any_of HT_.out (by kernel_rfl)) (fun _ _ _ h => h) (Or.inl ⟨by rfl, ?_⟩) ?_ ?_
                 rotate_left; (focus intro w'; go_simp; with_reducible rfl); rotate_left; (focus simp only [Act.put, List.setIfInBounds_toArray, List.set_cons_zero, List.set_cons_succ, i64_w, i32_w]; rfl)
                 refine pure_ (i := 3) (N := some 95) (v := ?_) (a' := ?_) (stickfulref26_Cut.bm 15 15) rfl rfl (any_of HT_.out (by kernel_rfl)) (fun _ _ _ h => h) (Or.inl ⟨by rfl, ?_⟩) ?_ ?_
                 rotate_left; (focus intro w'; go_simp; with_reducible rfl); rotate_left; (focus simp only [Act.put, List.setIfInBounds_toArray, List.set_cons_zero, List.set_cons_succ, i64_w, i32_w]; rfl)
                 refine pure_ (i := 5) (N := some 97) (v := ?_) (a' := ?_) (stickfulref26_Cut.bm 15 47) rfl rfl (any_of HT_.out (by kernel_rfl)) (fun _ _ _ h => h) (Or.inl ⟨by rfl, ?_⟩) ?_ ?_
                 rotate_left; (focus intro w'; go_simp; with_reducible rfl); rotate_left; (focus simp only [Act.put, List.setIfInBounds_toArray, List.set_cons_zero, List.set_cons_succ, i64_w, i32_w]; rfl)
                 refine pure_ (i := 10) (N := some 102) (v := ?_) (a' := ?_) (stickfulref26_Cut.bm 15 1071) rfl rfl (any_of HT_.out (by kernel_rfl)) (fun _ _ _ h => h) (Or.inl ⟨by rfl, ?_⟩) ?_ ?_
                 rotate_left; (focus intro w'; go_simp; with_reducible rfl); rotate_left; (focus simp only [Act.put, List.setIfInBounds_toArray, List.set_cons_zero, List.set_cons_succ, i64_w, i32_w]; rfl)
                 refine pure_ (i := 12) (N := some 104) (v := ?_) (a' := ?_) (stickfulref26_Cut.bm 15 5167) rfl rfl (any_of HT_.out (by kernel_rfl)) (fun _ _ _ h => h) (Or.inl ⟨by rfl, ?_⟩) ?_ ?_
                 rotate_left; (focus intro w'; go_simp; with_reducible rfl); rotate_left; (focus simp only [Act.put, List.setIfInBounds_toArray, List.set_cons_zero, List.set_cons_succ, i64_w, i32_w]; rfl)
                 refine take_ (i := 4) (N := some 96) (v := ?_) (a' := ?_) (stickfulref26_Cut.bm 15 5183) rfl rfl (take_ofW HT_.out HW_.out (by kernel_rfl)) (fun _ _ _ h => h) (Or.inl ⟨by rfl, ?_⟩) hHeld ?_ ?_
                 rotate_left; (focus rintro w' ⟨s0, s1, s2, s3, s4, s5, s6⟩; go_simp; with_reducible rfl); rotate_left; (focus simp only [Act.put, List.setIfInBounds_toArray, List.set_cons_zero, List.set_cons_succ, i64_w, i32_w]; rfl)
                 refine take_ (i := 6) (N := some 98) (v := ?_) (a' := ?_) (stickfulref26_Cut.bm 15 5247) rfl rfl (take_ofW HT_.out HW_.out (by kernel_rfl)) (fun _ _ _ h => h) (Or.inl ⟨by rfl, ?_⟩) hHeld ?_ ?_
                 rotate_left; (focus rintro w' ⟨s0, s1, s2, s3, s4, s5, s6⟩; go_simp; with_reducible rfl); rotate_left; (focus simp only [Act.put, List.setIfInBounds_toArray, List.set_cons_zero, List.set_cons_succ, i64_w, i32_w]; rfl)
                 refine pure_ (i := 7) (N := some 99) (v := ?_) (a' := ?_) (stickfulref26_Cut.bm 15 5375) rfl rfl (any_of HT_.out (by kernel_rfl)) (fun _ _ _ h => h) (Or.inl ⟨by rfl, ?_⟩) ?_ ?_
                 rotate_left; (focus intro w'; go_simp; with_reducible rfl); rotate_left; (focus simp only [Act.put, List.setIfInBounds_toArray, List.set_cons_zero, List.set_cons_succ, i64_w, i32_w]; rfl)
                 refine pure_ (i := 8) (N := some 100) (v := ?_) (a' := ?_) (stickfulref26_Cut.bm 15 5631) rfl rfl (any_of HT_.out (by kernel_rfl)) (fun _ _ _ h => h) (Or.inl ⟨by rfl, ?_⟩) ?_ ?_
                 rotate_left; (focus intro w'; go_simp; with_reducible rfl); rotate_left; (focus simp only [Act.put, List.setIfInBounds_toArray, List.set_cons_zero, List.set_cons_succ, i64_w, i32_w]; rfl)
                 refine take_ (i := 9) (N := some 101) (v := ?_) (a' := ?_) (stickfulref26_Cut.bm 15 6143) rfl rfl (take_ofW HT_.out HW_.out (by kernel_rfl)) (fun _ _ _ h => h) (Or.inl ⟨by rfl, ?_⟩) hHeld ?_ ?_
                 rotate_left; (focus rintro w' ⟨s0, s1, s2, s3, s4, s5, s6⟩; go_simp; with_reducible rfl); rotate_left; (focus simp only [Act.put, List.setIfInBounds_toArray, List.set_cons_zero, List.set_cons_succ, i64_w, i32_w]; rfl)
                 refine pure_ (i := 11) (N := some 103) (v := ?_) (a' := ?_) (stickfulref26_Cut.bm 15 8191) rfl rfl (any_of HT_.out (by kernel_rfl)) (fun _ _ _ h => h) (Or.inl ⟨by rfl, ?_⟩) ?_ ?_
                 rotate_left; (focus intro w'; go_simp; with_reducible rfl); rotate_left; (focus simp only [Act.put, List.setIfInBounds_toArray, List.set_cons_zero, List.set_cons_succ, i64_w, i32_w]; rfl)
                 refine take_ (i := 13) (N := some 105) (v := ?_) (a' := ?_) (stickfulref26_Cut.bm 15 16383) rfl rfl (take_ofW HT_.out HW_.out (by kernel_rfl)) (fun _ _ _ h => h) (Or.inl ⟨by rfl, ?_⟩) hHeld ?_ ?_
                 rotate_left; (focus rintro w' ⟨s0, s1, s2, s3, s4, s5, s6⟩; go_simp; with_reducible rfl); rotate_left; (focus simp only [Act.put, List.setIfInBounds_toArray, List.set_cons_zero, List.set_cons_succ, i64_w, i32_w]; rfl)
                 refine pure_ (i := 14) (N := some 106) (v := ?_) (a' := ?_) (stickfulref26_Cut.bm 15 32767) rfl rfl (any_of HT_.out (by kernel_rfl)) (fun _ _ _ h => h) (Or.inl ⟨by rfl, ?_⟩) ?_ ?_
                 rotate_left; (focus intro w'; go_simp; with_reducible rfl); rotate_left; (focus simp only [Act.put, List.setIfInBounds_toArray, List.set_cons_zero, List.set_cons_succ, i64_w, i32_w]; rfl)
                 refine done_ (done_of HT_.out (by kernel_rfl)) ?_
                 try go_wp2
                 go_roundg k2
                 case measure => have := HJ6.out; have := HK2.out; omega
                 case rel => exact ⟨(x21_2), (wrap64 (x22_2 + 1)), (by first | rfl | (simp; done) | (simp [*]; done)), (by first | rfl | (simp; done) | (simp [*]; done)), H', ⟨by have := HJ6.out; have := HK2.out; omega⟩, ⟨by (with_reducible repeat (first | apply Kd.R_alloc | apply Kd.R_drewN | apply Kd.R_drew)); exact HO_14.out⟩, ⟨by (with_reducible repeat (first | apply Kd.R_alloc | apply Kd.R_drewN | apply Kd.R_drew)); exact HO_19.out⟩, ⟨by (with_reducible repeat (first | refine blk_drewN ?_ _ | refine blk_drew ?_ | refine blk_alloc ?_ _)); exact BK272.out⟩, ⟨by (with_reducible repeat (first | refine blk_drewN ?_ _ | refine blk_drew ?_ | refine blk_alloc ?_ _)); exact BK273.out⟩, ⟨by repeat (first | (with_reducible first | exact HB.out | apply below_alloc | apply pw_below_drewN | apply below_drew1 | refine below_set ?_ GE272.out | refine below_set ?_ GE273.out) | exact HB.out)⟩⟩
               ·rw [if_neg c61] at H
                exact absurd H (by simp)
              ·rw [if_neg c60] at H
               exact absurd H (by simp)
             ·rw [if_neg c58] at H
              exact absurd H (by simp)
            ·rw [if_neg c57] at H
             have c57b0 : decide (x22_2 < (t274.length : Int)) = false := decide_eq_false c57
             clear c57
             obtain ⟨ji69, hji69⟩ : ∃ j_ : Int, (wrap64 (x21_2 - a2_0)) = j_ := ⟨_, rfl⟩
             replace H : (if 0 ≤ (ji69) then (if (ji69) < (t287.length : Int) then (some (x21_2, rd t287 (ji69), true, 0)) else (none)) else (none)) = some (r1, r2, r3, r4) := by first | (rw [hji69] at H; exact H) | (simp only [hji69] at H ⊢; exact H)
             have hji69w : (IntKind.i64.wrap (x21_2 - a2_0)) = ji69 := (i64_w _).trans hji69
             by_cases c70 : 0 ≤ (ji69)
             ·rw [if_pos c70] at H
              have c70b0 : decide (0 ≤ (ji69)) = true := decide_eq_true c70
              clear c70
              by_cases c71 : (ji69) < (t287.length : Int)
              ·rw [if_pos c71] at H
               have c71b0 : decide ((ji69) < (t287.length : Int)) = true := decide_eq_true c71
               clear c71
               simp only [Option.some.injEq, Prod.mk.injEq] at H
               obtain ⟨rfl, rfl, rfl, rfl⟩ := H
               obtain ⟨Ao72, co72, eo72⟩ := Kd.R_slice HO_14.out
               subst eo72
               try go_wp2
               replace HO_14 := Aside0.mk (Kd.R_drew HO_14.out)
               replace HO_19 := Aside0.mk (Kd.R_drew HO_19.out)
               replace BK272 := Aside0.mk (blk_drew BK272.out)
               replace BK273 := Aside0.mk (blk_drew BK273.out)
               replace HB := Aside0.mk (below_drew1 HB.out)
               obtain ⟨Ao74, co74, eo74⟩ := Kd.R_slice HO_19.out
               (first | subst eo74 | (injection eo74 with f1_ f2_ f3_; have f4_ := f1_.symm; have f5_ := f3_.symm; clear f1_ f2_ f3_; subst f4_; subst f5_))
               have p295 : 0 ≤ ((ji69) : Int) := of_decide_eq_true (by first | (with_reducible assumption) | assumption)
               have q295 : (ji69) < (t287.length : Int) := of_decide_eq_true (by first | (with_reducible assumption) | assumption)
               obtain ⟨ad295, e295, hx295_0⟩ := Kd.at_int (Kd.R_reads' HO_19.out).2.2 (ji69) p295 q295
               cases e295
               replace p295 := eq_true p295
               replace q295 := eq_true q295
               refine start_ (n := 12) (S := fun w' => w'.cell? ⟨gb272, 0, none⟩ = some (.int .i64 a2_0) ∧ w'.cell? ⟨gb272, 1, none⟩ = some (.int .i64 a2_1) ∧ w'.cell? ⟨gb272, 2, none⟩ = some (.bool a2_2) ∧ w'.cell? (ad295.add ((ji69)).toNat) = some (.int .i64 (rd t287 (ji69)))) (ds := []) (stickfulref26_Cut.bm 12 0) (by kernel_rfl) rfl rfl ⟨bc BK272 0, bc BK272 1, bc BK272 2, hx295_0⟩ (fun hHeld => ?_); refine with_tabW stickfulref26_Cut.tab19 stickfulref26_Cut.bits19 (fun HT_ HW_ => ?_)
               generalize wr.drew = w73 at HO_14 HO_19 BK272 BK273 HB hx295_0 hHeld ⊢
               refine pure_ (i := 0) (N := some 111) (v := ?_) (a' := ?_) (stickfulref26_Cut.bm 12 1) rfl rfl (any_of HT_.out (by kernel_rfl)) (fun _ _ _ h => h) (Or.inl ⟨by rfl, ?_⟩) ?_ ?_
               rotate_left; (focus intro w'; go_simp; with_reducible rfl); rotate_left; (focus simp only [Act.put, List.setIfInBounds_toArray, List.set_cons_zero, List.set_cons_succ, i64_w, i32_w]; rfl)
               refine pure_ (i := 1) (N := some 112) (v := ?_) (a' := ?_) (stickfulref26_Cut.bm 12 3) rfl rfl (any_of HT_.out (by kernel_rfl)) (fun _ _ _ h => h) (Or.inl ⟨by rfl, ?_⟩) ?_ ?_
               rotate_left; (focus intro w'; go_simp; with_reducible rfl); rotate_left; (focus simp only [Act.put, List.setIfInBounds_toArray, List.set_cons_zero, List.set_cons_succ, i64_w, i32_w]; rfl)
               refine pure_ (i := 2) (N := some 113) (v := ?_) (a' := ?_) (stickfulref26_Cut.bm 12 7) rfl rfl (any_of HT_.out (by kernel_rfl)) (fun _ _ _ h => h) (Or.inl ⟨by rfl, ?_⟩) ?_ ?_
               rotate_left; (focus intro w'; go_simp; with_reducible rfl); rotate_left; (focus simp only [Act.put, List.setIfInBounds_toArray, List.set_cons_zero, List.set_cons_succ, i64_w, i32_w]; rfl)
               refine pure_ (i := 3) (N := some 114) (v := ?_) (a' := ?_) (stickfulref26_Cut.bm 12 15) rfl rfl (any_of HT_.out (by kernel_rfl)) (fun _ _ _ h => h) (Or.inl ⟨by rfl, ?_⟩) ?_ ?_
               rotate_left; (focus intro w'; go_simp; with_reducible rfl); rotate_left; (focus simp only [Act.put, List.setIfInBounds_toArray, List.set_cons_zero, List.set_cons_succ, i64_w, i32_w]; rfl)
               refine pure_ (i := 8) (N := some 10) (v := ?_) (a' := ?_) (stickfulref26_Cut.bm 12 271) rfl rfl (any_of HT_.out (by kernel_rfl)) (fun _ _ _ h => h) (Or.inl ⟨by rfl, ?_⟩) ?_ ?_
               rotate_left; (focus intro w'; go_simp; with_reducible rfl); rotate_left; (focus simp only [Act.put, List.setIfInBounds_toArray, List.set_cons_zero, List.set_cons_succ, i64_w, i32_w]; rfl)
               refine take_ (i := 4) (N := some 115) (v := ?_) (a' := ?_) (stickfulref26_Cut.bm 12 287) rfl rfl (take_ofW HT_.out HW_.out (by kernel_rfl)) (fun _ _ _ h => h) (Or.inl ⟨by rfl, ?_⟩) hHeld ?_ ?_
               rotate_left; (focus rintro w' ⟨s0, s1, s2, s3⟩; (try simp only [Int.toNat_natCast] at s3); go_simp; with_reducible rfl); rotate_left; (focus simp only [Act.put, List.setIfInBounds_toArray, List.set_cons_zero, List.set_cons_succ, i64_w, i32_w]; rfl)
               refine pure_ (i := 5) (N := some 116) (v := ?_) (a' := ?_) (stickfulref26_Cut.bm 12 319) rfl rfl (any_of HT_.out (by kernel_rfl)) (fun _ _ _ h => h) (Or.inl ⟨by rfl, ?_⟩) ?_ ?_
               rotate_left; (focus intro w'; go_simp; with_reducible rfl); rotate_left; (focus simp only [Act.put, List.setIfInBounds_toArray, List.set_cons_zero, List.set_cons_succ, i64_w, i32_w]; rfl)
               refine pure_ (i := 6) (N := some 117) (v := ?_) (a' := ?_) (stickfulref26_Cut.bm 12 383) rfl rfl (any_of HT_.out (by kernel_rfl)) (fun _ _ _ h => h) (Or.inl ⟨by rfl, ?_⟩) ?_ ?_
               rotate_left; (focus intro w'; go_simp; with_reducible rfl); rotate_left; (focus simp only [Act.put, List.setIfInBounds_toArray, List.set_cons_zero, List.set_cons_succ, i64_w, i32_w]; rfl)
               refine take_ (i := 7) (N := some 118) (v := ?_) (a' := ?_) (stickfulref26_Cut.bm 12 511) rfl rfl (take_ofW HT_.out HW_.out (by kernel_rfl)) (fun _ _ _ h => h) (Or.inl ⟨by rfl, ?_⟩) hHeld ?_ ?_
               rotate_left; (focus rintro w' ⟨s0, s1, s2, s3⟩; (try simp only [Int.toNat_natCast] at s3); go_simp; with_reducible rfl); rotate_left; (focus simp only [Act.put, List.setIfInBounds_toArray, List.set_cons_zero, List.set_cons_succ, i64_w, i32_w]; rfl)
               refine pure_ (i := 9) (N := some 11) (v := ?_) (a' := ?_) (stickfulref26_Cut.bm 12 1023) rfl rfl (any_of HT_.out (by kernel_rfl)) (fun _ _ _ h => h) (Or.inl ⟨by rfl, ?_⟩) ?_ ?_
               rotate_left; (focus intro w'; go_simp; with_reducible rfl); rotate_left; (focus simp only [Act.put, List.setIfInBounds_toArray, List.set_cons_zero, List.set_cons_succ, i64_w, i32_w]; rfl)
               refine pure_ (i := 10) (N := some 12) (v := ?_) (a' := ?_) (stickfulref26_Cut.bm 12 2047) rfl rfl (any_of HT_.out (by kernel_rfl)) (fun _ _ _ h => h) (Or.inl ⟨by rfl, ?_⟩) ?_ ?_
               rotate_left; (focus intro w'; go_simp; with_reducible rfl); rotate_left; (focus simp only [Act.put, List.setIfInBounds_toArray, List.set_cons_zero, List.set_cons_succ, i64_w, i32_w]; rfl)
               refine pure_ (i := 11) (N := some 13) (v := ?_) (a' := ?_) (stickfulref26_Cut.bm 12 4095) rfl rfl (any_of HT_.out (by kernel_rfl)) (fun _ _ _ h => h) (Or.inl ⟨by rfl, ?_⟩) ?_ ?_
               rotate_left; (focus intro w'; go_simp; with_reducible rfl); rotate_left; (focus simp only [Act.put, List.setIfInBounds_toArray, List.set_cons_zero, List.set_cons_succ, i64_w, i32_w]; rfl)
               refine done_ (done_of HT_.out (by kernel_rfl)) ?_
               try go_wp2
               refine bodyPost_ret (results_list (rs := [.tmp 10, .tmp 11, .tmp 12, .tmp 13]) rfl (by simp) (.tmp (.tmp (.tmp (.tmp .nil))))) rfl ?_
               exact ⟨by first | rfl | (simp [errW_none, errW_some] <;> rfl) | (simp only [← hji69]; first | rfl | (simp [errW_none, errW_some] <;> rfl)) | (simp [*, errW_none, errW_some] <;> rfl), by repeat (first | (with_reducible first | exact HB.out | apply below_alloc | apply pw_below_drewN | apply below_drew1 | refine below_set ?_ GE272.out | refine below_set ?_ GE273.out) | exact HB.out)⟩
              ·rw [if_neg c71] at H
               exact absurd H (by simp)
             ·rw [if_neg c70] at H
              exact absurd H (by simp)
        ·rw [if_neg c30] at H
         have c30b0 : (t288 == 0) = false := beq_eq_false_iff_ne.mpr c30
         have c30b1 : (t288 != 0) = true := bne_iff_ne.mpr c30
         simp only [Option.some.injEq, Prod.mk.injEq] at H
         obtain ⟨rfl, rfl, rfl, rfl⟩ := H
         have hnb75 := NB272_273.out
         have hnc75 := NB273_272.out
         obtain ⟨hcz76_0, hcz76_1, hcz76_2⟩ := cz3 BK272
         obtain ⟨hfz76_0, hfz76_1, hfz76_2⟩ := fz3 BK272
         have q77 : (a2_1 : Int) ≤ ((l0.length : Int) : Int) := of_decide_eq_true (by first | (with_reducible assumption) | assumption)
         obtain ⟨i077, hi077, _, hsz77, _⟩ := info_parts info53
         have hroom77 : l0.length ≤ c0 := HC0.out
         have hC77 : Kd.C k53 _ A0 l0.length l0 := HR0.out
         have ql77 : (a2_0 : Int) ≤ (a2_1 : Int) := of_decide_eq_true (by first | (with_reducible assumption) | assumption)
         have q077 : (0 : Int) ≤ (a2_0 : Int) := of_decide_eq_true (by first | (with_reducible assumption) | assumption)
         have hcut77 := cut_mid (P := Try.prog) 22 53 .i64 .i64 Try.underlying22 hi077 6 hsz77 A0 l0.length c0 a2_0 a2_1 q077 ql77 q77 hroom77
         have hr77 := Kd.C_mid (lo := (a2_0 : Int).toNat) (hi := (a2_1 : Int).toNat) (c := c0) hC77 (by omega) (by omega) hroom77
         obtain ⟨A77, hA77⟩ : ∃ A1, A1 = (if c0 = (a2_0 : Int).toNat then A0 else (A0 : Option Addr).map (·.add ((a2_0 : Int).toNat * 6))) := ⟨_, rfl⟩
         obtain ⟨c77, hc77⟩ : ∃ c1, c1 = c0 - (a2_0 : Int).toNat := ⟨_, rfl⟩
         have hy77 : y278.length = (a2_1 : Int).toNat - (a2_0 : Int).toNat := (by rw [Ny278.out, List.length_drop, List.length_take] <;> omega)
         rw [show ((l0).take (a2_1 : Int).toNat).drop (a2_0 : Int).toNat = y278 from Ny278.out.symm] at hr77
         replace hr77 : Kd.C k53 _ A77 y278.length y278 := (by rw [hA77]; exact hr77)
         rw [← hy77, ← hA77, ← hc77] at hcut77
         have HR281 := Aside0.mk hr77
         have HC281 := Aside0.mk (show y278.length ≤ c77 from by rw [hy77, hc77]; exact Nat.sub_le_sub_right (Nat.le_trans (by omega) hroom77) _)
         clear hr77 hC77 hroom77 hi077 hsz77 hc77
         have KY77 := Aside0.mk hy77
         have KA77 := Aside0.mk hA77
         clear hy77 hA77
         replace q77 := eq_true q77
         obtain ⟨hcz78_0, hcz78_1⟩ := cz2 BK273
         obtain ⟨hfz78_0, hfz78_1⟩ := fz2 BK273
         try go_wp2_with (first | ((with_reducible refine gate_callee (f := 27) rfl ?_); refine goesB (some 55) rfl rfl Try.func27 #[.slice A77 y278.length c77, .int .i64 a3_1] rfl ?_; (with_reducible refine (stickfulref13_Fits.calls kj6 _ _ y278 a3_1 t282 t283 _ ?side1 ?side2 A26.out).mono ?_); (case side1 => repeat (first | exact (Kd.C_below HR281.out HB.out) | (with_reducible refine Kd.C_alloc ?_ _) | (with_reducible refine Kd.C_drewN ?_ _) | (with_reducible refine Kd.C_drew ?_))); (case side2 => exact HC281.out); rintro e w79 ⟨rfl, hb⟩; refine ⟨_, rfl, ?_⟩; replace HO_14 := Aside0.mk (Kd.R_below (rx HO_14) hb); replace BK272 := bb BK272 hb; replace BK273 := bb BK273 hb; replace HB := bh HB hb; (try clear hb); (try clear hb2); (try clear hk); (try clear hi)))
         replace HO_14 := Aside0.mk (Kd.R_drew HO_14.out)
         replace BK272 := Aside0.mk (blk_drew BK272.out)
         replace BK273 := Aside0.mk (blk_drew BK273.out)
         replace HB := Aside0.mk (below_drew1 HB.out)
         refine start_ (n := 11) (S := fun w' => w'.cell? ⟨gb273, 0, none⟩ = some (.int .i64 a3_0) ∧ w'.cell? ⟨gb273, 1, none⟩ = some (.int .i64 a3_1)) (ds := []) (stickfulref26_Cut.bm 11 0) (by kernel_rfl) rfl rfl ⟨bc BK273 0, bc BK273 1⟩ (fun hHeld => ?_); refine with_tabW stickfulref26_Cut.tab8 stickfulref26_Cut.bits8 (fun HT_ HW_ => ?_)
         generalize w79.drew = w80 at HO_14 BK272 BK273 HB hHeld ⊢
         refine pure_ (i := 0) (N := some 62) (v := ?_) (a' := ?_) (stickfulref26_Cut.bm 11 1) rfl rfl (any_of HT_.out (by kernel_rfl)) (fun _ _ _ h => h) (Or.inl ⟨by rfl, ?_⟩) ?_ ?_
         rotate_left; (focus intro w'; go_simp; with_reducible rfl); rotate_left; (focus simp only [Act.put, List.setIfInBounds_toArray, List.set_cons_zero, List.set_cons_succ, i64_w, i32_w]; rfl)
         refine pure_ (i := 1) (N := some 63) (v := ?_) (a' := ?_) (stickfulref26_Cut.bm 11 3) rfl rfl (any_of HT_.out (by kernel_rfl)) (fun _ _ _ h => h) (Or.inl ⟨by rfl, ?_⟩) ?_ ?_
         rotate_left; (focus intro w'; go_simp; with_reducible rfl); rotate_left; (focus simp only [Act.put, List.setIfInBounds_toArray, List.set_cons_zero, List.set_cons_succ, i64_w, i32_w]; rfl)
         refine pure_ (i := 3) (N := some 65) (v := ?_) (a' := ?_) (stickfulref26_Cut.bm 11 11) rfl rfl (any_of HT_.out (by kernel_rfl)) (fun _ _ _ h => h) (Or.inl ⟨by rfl, ?_⟩) ?_ ?_
         rotate_left; (focus intro w'; go_simp; with_reducible rfl); rotate_left; (focus simp only [Act.put, List.setIfInBounds_toArray, List.set_cons_zero, List.set_cons_succ, i64_w, i32_w]; rfl)
         refine take_ (i := 4) (N := some 66) (v := ?_) (a' := ?_) (stickfulref26_Cut.bm 11 27) rfl rfl (take_ofW HT_.out HW_.out (by kernel_rfl)) (fun _ _ _ h => h) (Or.inl ⟨by rfl, ?_⟩) hHeld ?_ ?_
         rotate_left; (focus rintro w' ⟨s0, s1⟩; go_simp; with_reducible rfl); rotate_left; (focus simp only [Act.put, List.setIfInBounds_toArray, List.set_cons_zero, List.set_cons_succ, i64_w, i32_w]; rfl)
         refine one_ (i := 2) (N := some 64) (stickfulref26_Cut.bm 11 31) rfl rfl (one_of HT_.out (by kernel_rfl)) (by decide) (fun K hK => ?_)
         refine goes_ Try.func29 (by kernel_rfl) rfl #[.slice A77 y278.length c77] (by rfl) rfl rfl (by (try simp only [List.map_toArray, List.map_cons, List.map_nil]); first | done | rfl | (simp only [List.length_drop, List.length_take]; rfl)) ?_
         with_reducible refine (stickfulref13_Roles.calls kj6 _ _ y278 t284 _ ?side1 ?side2 A28.out).mono ?_
         (case side1 => repeat (first | exact (Kd.C_below HR281.out HB.out) | (with_reducible refine Kd.C_alloc ?_ _) | (with_reducible refine Kd.C_drewN ?_ _) | (with_reducible refine Kd.C_drew ?_)))
         (case side2 => exact HC281.out)
         rintro e w81 ⟨v285, rfl, ho0, hb⟩
         refine ⟨_, rfl, ?_⟩
         replace HO_14 := Aside0.mk (Kd.R_below (rx HO_14) hb)
         have HO286 := Aside0.mk (Kd.R_lower ho0 (below_size (bw HB)))
         replace BK272 := bb BK272 hb
         replace BK273 := bb BK273 hb
         replace HB := bh HB hb
         (try clear hb)
         (try clear hb2)
         (try clear hk)
         (try clear hi)
         (try clear ho0)
         obtain ⟨Ao82, co82, eo82⟩ := Kd.R_slice HO286.out
         (first | subst eo82 | (injection eo82 with f1_ f2_ f3_; have f4_ := f1_.symm; have f5_ := f3_.symm; clear f1_ f2_ f3_; subst f4_; subst f5_))
         refine hK.out _ _ ⟨bc BK273 0, bc BK273 1⟩ (fun hHeld => ?_)
         clear hK K
         refine norm_ (a' := ?_) ?_ ?_
         rotate_left; (focus show Act.put _ (some 64) _ = _; simp only [Act.put, List.setIfInBounds_toArray, List.set_cons_zero, List.set_cons_succ, i64_w, i32_w]; rfl)
         refine one_ (i := 5) (N := some 67) (stickfulref26_Cut.bm 11 63) rfl rfl (one_of HT_.out (by kernel_rfl)) (by decide) (fun K hK => ?_)
         refine goes_ Try.func28 (by kernel_rfl) rfl #[.slice A77 y278.length c77, .slice Ao82 t284.length co82, .int .i64 a3_1] (by rfl) rfl rfl (by (try simp only [List.map_toArray, List.map_cons, List.map_nil]); first | done | rfl | (simp only [List.length_drop, List.length_take]; rfl)) ?_
         with_reducible refine (stickfulref12_Pens.calls kj6 _ _ y278 _ _ t284 a3_1 t287 t288 _ ?side1 ?side2 ?side3 ?side4 A29.out).mono ?_
         (case side1 => repeat (first | exact (Kd.C_below HR281.out HB.out) | (with_reducible refine Kd.C_alloc ?_ _) | (with_reducible refine Kd.C_drewN ?_ _) | (with_reducible refine Kd.C_drew ?_)))
         (case side2 => exact HC281.out)
         (case side3 => repeat (first | exact (Kd.R_reads' HO286.out).2.2 | (with_reducible refine Kd.C_alloc ?_ _) | (with_reducible refine Kd.C_drewN ?_ _) | (with_reducible refine Kd.C_drew ?_)))
         (case side4 => exact (Kd.R_reads' HO286.out).2.1)
         rintro e w83 ⟨v289, rfl, ho0, hb⟩
         refine ⟨_, rfl, ?_⟩
         replace HO_14 := Aside0.mk (Kd.R_below (rx HO_14) hb)
         replace HO286 := Aside0.mk (Kd.R_below (rx HO286) hb)
         have HO290 := Aside0.mk (Kd.R_lower ho0 (below_size (bw HB)))
         replace BK272 := bb BK272 hb
         replace BK273 := bb BK273 hb
         replace HB := bh HB hb
         (try clear hb)
         (try clear hb2)
         (try clear hk)
         (try clear hi)
         (try clear ho0)
         refine hK.out _ _ ⟨bc BK273 0, bc BK273 1⟩ (fun hHeld => ?_)
         clear hK K
         refine norm_ (a' := ?_) ?_ ?_
         rotate_left; (focus show Act.put _ (some 67) _ = _; simp only [Act.put, List.setIfInBounds_toArray, List.set_cons_zero, List.set_cons_succ, i64_w, i32_w]; rfl)
         refine pure_ (i := 6) (N := some 61) (v := ?_) (a' := ?_) (stickfulref26_Cut.bm 11 127) rfl rfl (any_of HT_.out (by kernel_rfl)) (fun _ _ _ h => h) (Or.inl ⟨by rfl, ?_⟩) ?_ ?_
         rotate_left; (focus intro w'; go_simp; with_reducible rfl); rotate_left; (focus simp only [Act.put, List.setIfInBounds_toArray, List.set_cons_zero, List.set_cons_succ, i64_w, i32_w]; rfl)
         refine pure_ (i := 7) (N := some 68) (v := ?_) (a' := ?_) (stickfulref26_Cut.bm 11 255) rfl rfl (any_of HT_.out (by kernel_rfl)) (fun _ _ _ h => h) (Or.inl ⟨by rfl, ?_⟩) ?_ ?_
         rotate_left; (focus intro w'; go_simp; with_reducible rfl); rotate_left; (focus simp only [Act.put, List.setIfInBounds_toArray, List.set_cons_zero, List.set_cons_succ, i64_w, i32_w]; rfl)
         refine pure_ (i := 8) (N := some 69) (v := ?_) (a' := ?_) (stickfulref26_Cut.bm 11 511) rfl rfl (any_of HT_.out (by kernel_rfl)) (fun _ _ _ h => h) (Or.inl ⟨by rfl, ?_⟩) ?_ ?_
         rotate_left; (focus intro w'; go_simp; with_reducible rfl); rotate_left; (focus simp only [Act.put, List.setIfInBounds_toArray, List.set_cons_zero, List.set_cons_succ, i64_w, i32_w]; rfl)
         refine pure_ (i := 9) (N := some 19) (v := ?_) (a' := ?_) (stickfulref26_Cut.bm 11 1023) rfl rfl (any_of HT_.out (by kernel_rfl)) (fun _ _ _ h => h) (Or.inl ⟨by rfl, ?_⟩) ?_ ?_
         rotate_left; (focus intro w'; go_simp; with_reducible rfl); rotate_left; (focus simp only [Act.put, List.setIfInBounds_toArray, List.set_cons_zero, List.set_cons_succ, i64_w, i32_w]; rfl)
         refine pure_ (i := 10) (N := some 20) (v := ?_) (a' := ?_) (stickfulref26_Cut.bm 11 2047) rfl rfl (any_of HT_.out (by kernel_rfl)) (fun _ _ _ h => h) (Or.inl ⟨by rfl, ?_⟩) ?_ ?_
         rotate_left; (focus intro w'; go_simp; with_reducible rfl); rotate_left; (focus simp only [Act.put, List.setIfInBounds_toArray, List.set_cons_zero, List.set_cons_succ, i64_w, i32_w]; rfl)
         refine done_ (done_of HT_.out (by kernel_rfl)) ?_
         try go_wp2
         refine bodyPost_ret (results_list (rs := [.tmp 10, .tmp 11, .tmp 12, .tmp 13]) rfl (by simp) (.tmp (.tmp (.tmp (.tmp .nil))))) rfl ?_
         exact ⟨by first | rfl | (simp [errW_none, errW_some] <;> rfl) | (simp [*, errW_none, errW_some] <;> rfl), by repeat (first | (with_reducible first | exact HB.out | apply below_alloc | apply pw_below_drewN | apply below_drew1 | refine below_set ?_ GE272.out | refine below_set ?_ GE273.out) | exact HB.out)⟩
       ·rw [if_neg c27] at H
        have c27b0 : (t283 == 0) = false := beq_eq_false_iff_ne.mpr c27
        have c27b1 : (t283 != 0) = true := bne_iff_ne.mpr c27
        simp only [Option.some.injEq, Prod.mk.injEq] at H
        obtain ⟨rfl, rfl, rfl, rfl⟩ := H
        have hnb84 := NB272_273.out
        have hnc84 := NB273_272.out
        obtain ⟨hcz85_0, hcz85_1, hcz85_2⟩ := cz3 BK272
        obtain ⟨hfz85_0, hfz85_1, hfz85_2⟩ := fz3 BK272
        have q86 : (a2_1 : Int) ≤ ((l0.length : Int) : Int) := of_decide_eq_true (by first | (with_reducible assumption) | assumption)
        obtain ⟨i086, hi086, _, hsz86, _⟩ := info_parts info53
        have hroom86 : l0.length ≤ c0 := HC0.out
        have hC86 : Kd.C k53 _ A0 l0.length l0 := HR0.out
        have ql86 : (a2_0 : Int) ≤ (a2_1 : Int) := of_decide_eq_true (by first | (with_reducible assumption) | assumption)
        have q086 : (0 : Int) ≤ (a2_0 : Int) := of_decide_eq_true (by first | (with_reducible assumption) | assumption)
        have hcut86 := cut_mid (P := Try.prog) 22 53 .i64 .i64 Try.underlying22 hi086 6 hsz86 A0 l0.length c0 a2_0 a2_1 q086 ql86 q86 hroom86
        have hr86 := Kd.C_mid (lo := (a2_0 : Int).toNat) (hi := (a2_1 : Int).toNat) (c := c0) hC86 (by omega) (by omega) hroom86
        obtain ⟨A86, hA86⟩ : ∃ A1, A1 = (if c0 = (a2_0 : Int).toNat then A0 else (A0 : Option Addr).map (·.add ((a2_0 : Int).toNat * 6))) := ⟨_, rfl⟩
        obtain ⟨c86, hc86⟩ : ∃ c1, c1 = c0 - (a2_0 : Int).toNat := ⟨_, rfl⟩
        have hy86 : y278.length = (a2_1 : Int).toNat - (a2_0 : Int).toNat := (by rw [Ny278.out, List.length_drop, List.length_take] <;> omega)
        rw [show ((l0).take (a2_1 : Int).toNat).drop (a2_0 : Int).toNat = y278 from Ny278.out.symm] at hr86
        replace hr86 : Kd.C k53 _ A86 y278.length y278 := (by rw [hA86]; exact hr86)
        rw [← hy86, ← hA86, ← hc86] at hcut86
        have HR281 := Aside0.mk hr86
        have HC281 := Aside0.mk (show y278.length ≤ c86 from by rw [hy86, hc86]; exact Nat.sub_le_sub_right (Nat.le_trans (by omega) hroom86) _)
        clear hr86 hC86 hroom86 hi086 hsz86 hc86
        have KY86 := Aside0.mk hy86
        have KA86 := Aside0.mk hA86
        clear hy86 hA86
        replace q86 := eq_true q86
        obtain ⟨hcz87_0, hcz87_1⟩ := cz2 BK273
        obtain ⟨hfz87_0, hfz87_1⟩ := fz2 BK273
        go_wp2_with (first | ((with_reducible refine gate_callee (f := 27) rfl ?_); refine goesB (some 55) rfl rfl Try.func27 #[.slice A86 y278.length c86, .int .i64 a3_1] rfl ?_; (with_reducible refine (stickfulref13_Fits.calls kj6 _ _ y278 a3_1 t282 t283 _ ?side1 ?side2 A26.out).mono ?_); (case side1 => repeat (first | exact (Kd.C_below HR281.out HB.out) | (with_reducible refine Kd.C_alloc ?_ _) | (with_reducible refine Kd.C_drewN ?_ _) | (with_reducible refine Kd.C_drew ?_))); (case side2 => exact HC281.out); rintro e w88 ⟨rfl, hb⟩; refine ⟨_, rfl, ?_⟩; replace HO_14 := Aside0.mk (Kd.R_below (rx HO_14) hb); replace BK272 := bb BK272 hb; replace BK273 := bb BK273 hb; replace HB := bh HB hb; (try clear hb); (try clear hb2); (try clear hk); (try clear hi)))
        refine bodyPost_ret (results_list (rs := [.tmp 10, .tmp 11, .tmp 12, .tmp 13]) rfl (by simp) (.tmp (.tmp (.tmp (.tmp .nil))))) rfl ?_
        exact ⟨by first | rfl | (simp [errW_none, errW_some] <;> rfl) | (simp [*, errW_none, errW_some] <;> rfl), by repeat (first | (with_reducible first | exact HB.out | apply below_alloc | apply pw_below_drewN | apply below_drew1 | refine below_set ?_ GE272.out | refine below_set ?_ GE273.out) | exact HB.out)⟩
      ·rw [if_neg c25] at H
       exact absurd H (by simp)
     ·rw [if_neg c24] at H
      exact absurd H (by simp)
    ·rw [if_neg c23] at H
     exact absurd H (by simp)

end Go.Proofs.Ytkaiibipcnlaiaa.HEll
