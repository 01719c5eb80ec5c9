-- Written by this claim's own program over the kit's print.
import Derived.Test.YtagdaniakfpnfaaHFillCb
import Derived.Test.YtagdaniakfpnfaaHFillCx0
import Derived.Test.YtagdaniakfpnfaaHFillCx5
import Derived.Test.YtagdaniakfpnfaaHFillCx11
import Derived.Test.YtagdaniakfpnfaaHFillCx14
import Derived.Test.YtagdaniakfpnfaaHFillCx15
namespace Go.Proofs.Ytagdaniakfpnfaa.HFillC
open Go.RowKit Go.Proofs.YtagdaniakfpnfaaW.PrintWords Go.Proofs.YtagdaniakfpnfaaW.PrintLast Go.Proofs.YtagdaniakfpnfaaW.PrintMore Go.Proofs.Ytagdaniakfpnfaa.Hand
attribute [local go_sem] max2_int min2_int max_two min_two max_three min_three max_four min_four   -- for this text's walks alone
set_option linter.unusedVariables false
set_option linter.unusedSimpArgs false

/-- Which operations have been taken: the bits of a number. -/
def stickfullaw14_FillGreedy.bits : Nat → Nat → List Bool
 | 0, _ => []
 | n + 1, m => Nat.beq (m % 2) 1 :: stickfullaw14_FillGreedy.bits n (m / 2)
def stickfullaw14_FillGreedy.bm (n m : Nat) : Array Bool := (stickfullaw14_FillGreedy.bits n m).toArray
/-! ### stickfullaw14_FillGreedy: function 5 -/
mutual
def stickfullaw14_FillGreedy.l0 : Nat → List (S44) → List (S35) → Int → Int → Int → Int → Int → Option (Bool)
 | 0, _, _, _, _, _, _, _ => none
 | k + 1, x0, x7, x10, x276000, x276001, x283000, x283001 => if x10 < (x7.length : Int) then (if 0 ≤ x10 then ((fill_Ends.f k x0 ((rd_T35 x7 x10).f0)).bind fun bt286 => (if 0 ≤ ((rd_T35 x7 x10).f0) then (if ((rd_T35 x7 x10).f0) ≤ ((rd_T35 x7 x10).f1) then (if ((rd_T35 x7 x10).f1) ≤ (x0.length : Int) then ((trim_Fits.f ((x0.take (((rd_T35 x7 x10).f1) : Int).toNat).drop (((rd_T35 x7 x10).f0) : Int).toNat) x283001).bind fun bt297 => (if bt297.2 = 0 then (stickfullaw14_FillGreedy.l1 k x0 x7 x10 bt286.1 bt286.2.1 (decide (bt297.1 ≤ x283000)) 0 x276000 x276001 x283000 x283001 ((rd_T35 x7 x10).f0) ((rd_T35 x7 x10).f1) ((rd_T35 x7 x10).f2)) else (some false))) else (none)) else (none)) else (none))) else (none)) else ((stickfullaw14_head.f k).bind fun t283 => (some t283))
def stickfullaw14_FillGreedy.l1 : Nat → List (S44) → List (S35) → Int → List Int → List Int → Bool → Int → Int → Int → Int → Int → Int → Int → Bool → Option (Bool)
 | 0, _, _, _, _, _, _, _, _, _, _, _, _, _, _ => none
 | k + 1, x0, x7, x10, x12, x13, x17, x18, x276000, x276001, x283000, x283001, x286000, x286001, x286002 => if x18 < (x12.length : Int) then (if 0 ≤ x18 then (if 0 ≤ x286000 then (if x286000 ≤ (rd x12 x18) then (if (rd x12 x18) ≤ (x0.length : Int) then ((trim_Fits.f ((x0.take ((rd x12 x18) : Int).toNat).drop (x286000 : Int).toNat) x283001).bind fun bt304 => (if (rd x12 x18) < x286001 then (if x17 = true then (if bt304.2 = 0 then (stickfullaw14_FillGreedy.j2 k x0 x7 x10 x12 x13 x17 x18 bt304.1 bt304.2 (decide (bt304.1 > x283000)) x276000 x276001 x283000 x283001 x286000 x286001 x286002) else (stickfullaw14_FillGreedy.j2 k x0 x7 x10 x12 x13 x17 x18 bt304.1 bt304.2 true x276000 x276001 x283000 x283001 x286000 x286001 x286002)) else (stickfullaw14_FillGreedy.j2 k x0 x7 x10 x12 x13 x17 x18 bt304.1 bt304.2 true x276000 x276001 x283000 x283001 x286000 x286001 x286002)) else (stickfullaw14_FillGreedy.j2 k x0 x7 x10 x12 x13 x17 x18 bt304.1 bt304.2 false x276000 x276001 x283000 x283001 x286000 x286001 x286002))) else (none)) else (none)) else (none)) else (none)) else (stickfullaw14_FillGreedy.l2 k x0 x7 x10 x13 x17 0 x276000 x276001 x286000 x286001 x286002)
def stickfullaw14_FillGreedy.j2 : Nat → List (S44) → List (S35) → Int → List Int → List Int → Bool → Int → Int → Int → Bool → Int → Int → Int → Int → Int → Int → Bool → Option (Bool)
 | 0, _, _, _, _, _, _, _, _, _, _, _, _, _, _, _, _, _ => none
 | k + 1, x0, x7, x10, x12, x13, x17, x18, x19, x20, x113, x276000, x276001, x283000, x283001, x286000, x286001, x286002 => if x113 = true then (some false) else (if 0 ≤ x18 then (if x18 < (x12.length : Int) then (if (rd x12 x18) > x286001 then (if x18 = 0 then (if x20 = 0 then (if x19 ≤ x283000 then (some false) else (stickfullaw14_FillGreedy.l1 k x0 x7 x10 x12 x13 x17 (wrap64 (x18 + 1)) x276000 x276001 x283000 x283001 x286000 x286001 x286002)) else (stickfullaw14_FillGreedy.l1 k x0 x7 x10 x12 x13 x17 (wrap64 (x18 + 1)) x276000 x276001 x283000 x283001 x286000 x286001 x286002)) else (if x17 = true then (if 0 ≤ (wrap64 (x18 - 1)) then (if (wrap64 (x18 - 1)) < (x12.length : Int) then (if (rd x12 (wrap64 (x18 - 1))) ≤ x286001 then (if x20 = 0 then (if x19 ≤ x283000 then (some false) else (stickfullaw14_FillGreedy.l1 k x0 x7 x10 x12 x13 x17 (wrap64 (x18 + 1)) x276000 x276001 x283000 x283001 x286000 x286001 x286002)) else (stickfullaw14_FillGreedy.l1 k x0 x7 x10 x12 x13 x17 (wrap64 (x18 + 1)) x276000 x276001 x283000 x283001 x286000 x286001 x286002)) else (stickfullaw14_FillGreedy.l1 k x0 x7 x10 x12 x13 x17 (wrap64 (x18 + 1)) x276000 x276001 x283000 x283001 x286000 x286001 x286002)) else (none)) else (none)) else (stickfullaw14_FillGreedy.l1 k x0 x7 x10 x12 x13 x17 (wrap64 (x18 + 1)) x276000 x276001 x283000 x283001 x286000 x286001 x286002))) else (stickfullaw14_FillGreedy.l1 k x0 x7 x10 x12 x13 x17 (wrap64 (x18 + 1)) x276000 x276001 x283000 x283001 x286000 x286001 x286002)) else (none)) else (none))
def stickfullaw14_FillGreedy.l2 : Nat → List (S44) → List (S35) → Int → List Int → Bool → Int → Int → Int → Int → Int → Bool → Option (Bool)
 | 0, _, _, _, _, _, _, _, _, _, _, _ => none
 | k + 1, x0, x7, x10, x13, x17, x21, x276000, x276001, x286000, x286001, x286002 => if x21 < (x13.length : Int) then (if 0 ≤ x21 then (if (rd x13 x21) < x286001 then (if x17 = true then (stickfullaw14_FillGreedy.l2 k x0 x7 x10 x13 x17 (wrap64 (x21 + 1)) x276000 x276001 x286000 x286001 x286002) else (some false)) else (stickfullaw14_FillGreedy.l2 k x0 x7 x10 x13 x17 (wrap64 (x21 + 1)) x276000 x276001 x286000 x286001 x286002)) else (none)) else (stickfullaw14_FillGreedy.l0 k x0 x7 (wrap64 (x10 + 1)) x276000 x276001 x276000 x276001)
end
def stickfullaw14_FillGreedy.f (k : Nat) (l0 : List (S44)) (a1_0 a1_1 a2_0 a2_1 : Int) : Option (Bool) := if (l0.length : Int) > 80 then ((stickfullaw14_head.f k).bind fun t276 => (some t276)) else ((fill_Lines.f k l0 a1_0 a1_1 a2_0 a2_1).bind fun bt277 => (if bt277.2 = 0 then (stickfullaw14_FillGreedy.l0 k l0 bt277.1 0 a2_0 a2_1 a1_0 a1_1) else ((stickfullaw14_head.f k).bind fun t281 => (some t281))))
theorem stickfullaw14_FillGreedy.mono_l : ∀ k, (∀ y0 y1 y2 y3 y4 y5 y6, LeO (stickfullaw14_FillGreedy.l0 k y0 y1 y2 y3 y4 y5 y6) (stickfullaw14_FillGreedy.l0 (k + 1) y0 y1 y2 y3 y4 y5 y6)) ∧ (∀ y0 y1 y2 y3 y4 y5 y6 y7 y8 y9 y10 y11 y12 y13, LeO (stickfullaw14_FillGreedy.l1 k y0 y1 y2 y3 y4 y5 y6 y7 y8 y9 y10 y11 y12 y13) (stickfullaw14_FillGreedy.l1 (k + 1) y0 y1 y2 y3 y4 y5 y6 y7 y8 y9 y10 y11 y12 y13)) ∧ (∀ y0 y1 y2 y3 y4 y5 y6 y7 y8 y9 y10 y11 y12 y13 y14 y15 y16, LeO (stickfullaw14_FillGreedy.j2 k y0 y1 y2 y3 y4 y5 y6 y7 y8 y9 y10 y11 y12 y13 y14 y15 y16) (stickfullaw14_FillGreedy.j2 (k + 1) y0 y1 y2 y3 y4 y5 y6 y7 y8 y9 y10 y11 y12 y13 y14 y15 y16)) ∧ (∀ y0 y1 y2 y3 y4 y5 y6 y7 y8 y9 y10, LeO (stickfullaw14_FillGreedy.l2 k y0 y1 y2 y3 y4 y5 y6 y7 y8 y9 y10) (stickfullaw14_FillGreedy.l2 (k + 1) y0 y1 y2 y3 y4 y5 y6 y7 y8 y9 y10))
 | 0 => ⟨fun _ _ _ _ _ _ _ r h => by simp [stickfullaw14_FillGreedy.l0] at h, fun _ _ _ _ _ _ _ _ _ _ _ _ _ _ r h => by simp [stickfullaw14_FillGreedy.l1] at h, fun _ _ _ _ _ _ _ _ _ _ _ _ _ _ _ _ _ r h => by simp [stickfullaw14_FillGreedy.j2] at h, fun _ _ _ _ _ _ _ _ _ _ _ r h => by simp [stickfullaw14_FillGreedy.l2] at h⟩
 | k + 1 => by
  obtain ⟨ih0, ih1, ih2, ih3⟩ := stickfullaw14_FillGreedy.mono_l k
  refine ⟨?_, ?_, ?_, ?_⟩
  ·intro y0 y1 y2 y3 y4 y5 y6
   unfold stickfullaw14_FillGreedy.l0
   repeat' first
   | (with_reducible exact ih0 _ _ _ _ _ _ _)
   | (with_reducible exact ih1 _ _ _ _ _ _ _ _ _ _ _ _ _ _)
   | (with_reducible exact ih2 _ _ _ _ _ _ _ _ _ _ _ _ _ _ _ _ _)
   | (with_reducible exact ih3 _ _ _ _ _ _ _ _ _ _ _)
   | (with_reducible exact fill_Ends.mono _ _ _)
   | (with_reducible exact fill_Lines.mono _ _ _ _ _ _)
   | (with_reducible exact stickfullaw14_head.mono _)
   | (with_reducible exact LeO.refl _)
   | (with_reducible exact LeO.none _)
   | (with_reducible refine LeO.ite ?_ ?_)
   | (with_reducible refine LeO.bind ?_ (fun _ => ?_))
   | exact ih0 _ _ _ _ _ _ _
   | exact ih1 _ _ _ _ _ _ _ _ _ _ _ _ _ _
   | exact ih2 _ _ _ _ _ _ _ _ _ _ _ _ _ _ _ _ _
   | exact ih3 _ _ _ _ _ _ _ _ _ _ _
   | exact fill_Ends.mono _ _ _
   | exact fill_Lines.mono _ _ _ _ _ _
   | exact stickfullaw14_head.mono _
   | exact LeO.none _
   | refine LeO.ite ?_ ?_
   | refine LeO.bind ?_ (fun _ => ?_)
  ·intro y0 y1 y2 y3 y4 y5 y6 y7 y8 y9 y10 y11 y12 y13
   unfold stickfullaw14_FillGreedy.l1
   repeat' first
   | (with_reducible exact ih0 _ _ _ _ _ _ _)
   | (with_reducible exact ih1 _ _ _ _ _ _ _ _ _ _ _ _ _ _)
   | (with_reducible exact ih2 _ _ _ _ _ _ _ _ _ _ _ _ _ _ _ _ _)
   | (with_reducible exact ih3 _ _ _ _ _ _ _ _ _ _ _)
   | (with_reducible exact fill_Ends.mono _ _ _)
   | (with_reducible exact fill_Lines.mono _ _ _ _ _ _)
   | (with_reducible exact stickfullaw14_head.mono _)
   | (with_reducible exact LeO.refl _)
   | (with_reducible exact LeO.none _)
   | (with_reducible refine LeO.ite ?_ ?_)
   | (with_reducible refine LeO.bind ?_ (fun _ => ?_))
   | exact ih0 _ _ _ _ _ _ _
   | exact ih1 _ _ _ _ _ _ _ _ _ _ _ _ _ _
   | exact ih2 _ _ _ _ _ _ _ _ _ _ _ _ _ _ _ _ _
   | exact ih3 _ _ _ _ _ _ _ _ _ _ _
   | exact fill_Ends.mono _ _ _
   | exact fill_Lines.mono _ _ _ _ _ _
   | exact stickfullaw14_head.mono _
   | exact LeO.none _
   | refine LeO.ite ?_ ?_
   | refine LeO.bind ?_ (fun _ => ?_)
  ·intro y0 y1 y2 y3 y4 y5 y6 y7 y8 y9 y10 y11 y12 y13 y14 y15 y16
   unfold stickfullaw14_FillGreedy.j2
   repeat' first
   | (with_reducible exact ih0 _ _ _ _ _ _ _)
   | (with_reducible exact ih1 _ _ _ _ _ _ _ _ _ _ _ _ _ _)
   | (with_reducible exact ih2 _ _ _ _ _ _ _ _ _ _ _ _ _ _ _ _ _)
   | (with_reducible exact ih3 _ _ _ _ _ _ _ _ _ _ _)
   | (with_reducible exact fill_Ends.mono _ _ _)
   | (with_reducible exact fill_Lines.mono _ _ _ _ _ _)
   | (with_reducible exact stickfullaw14_head.mono _)
   | (with_reducible exact LeO.refl _)
   | (with_reducible exact LeO.none _)
   | (with_reducible refine LeO.ite ?_ ?_)
   | (with_reducible refine LeO.bind ?_ (fun _ => ?_))
   | exact ih0 _ _ _ _ _ _ _
   | exact ih1 _ _ _ _ _ _ _ _ _ _ _ _ _ _
   | exact ih2 _ _ _ _ _ _ _ _ _ _ _ _ _ _ _ _ _
   | exact ih3 _ _ _ _ _ _ _ _ _ _ _
   | exact fill_Ends.mono _ _ _
   | exact fill_Lines.mono _ _ _ _ _ _
   | exact stickfullaw14_head.mono _
   | exact LeO.none _
   | refine LeO.ite ?_ ?_
   | refine LeO.bind ?_ (fun _ => ?_)
  ·intro y0 y1 y2 y3 y4 y5 y6 y7 y8 y9 y10
   unfold stickfullaw14_FillGreedy.l2
   repeat' first
   | (with_reducible exact ih0 _ _ _ _ _ _ _)
   | (with_reducible exact ih1 _ _ _ _ _ _ _ _ _ _ _ _ _ _)
   | (with_reducible exact ih2 _ _ _ _ _ _ _ _ _ _ _ _ _ _ _ _ _)
   | (with_reducible exact ih3 _ _ _ _ _ _ _ _ _ _ _)
   | (with_reducible exact fill_Ends.mono _ _ _)
   | (with_reducible exact fill_Lines.mono _ _ _ _ _ _)
   | (with_reducible exact stickfullaw14_head.mono _)
   | (with_reducible exact LeO.refl _)
   | (with_reducible exact LeO.none _)
   | (with_reducible refine LeO.ite ?_ ?_)
   | (with_reducible refine LeO.bind ?_ (fun _ => ?_))
   | exact ih0 _ _ _ _ _ _ _
   | exact ih1 _ _ _ _ _ _ _ _ _ _ _ _ _ _
   | exact ih2 _ _ _ _ _ _ _ _ _ _ _ _ _ _ _ _ _
   | exact ih3 _ _ _ _ _ _ _ _ _ _ _
   | exact fill_Ends.mono _ _ _
   | exact fill_Lines.mono _ _ _ _ _ _
   | exact stickfullaw14_head.mono _
   | exact LeO.none _
   | refine LeO.ite ?_ ?_
   | refine LeO.bind ?_ (fun _ => ?_)
theorem stickfullaw14_FillGreedy.mono : ∀ a0 a1 a2 a3 a4 k, LeO (stickfullaw14_FillGreedy.f k a0 a1 a2 a3 a4) (stickfullaw14_FillGreedy.f (k + 1) a0 a1 a2 a3 a4) := by
 intro a0 a1 a2 a3 a4 k
 obtain ⟨ih0, ih1, ih2, ih3⟩ := stickfullaw14_FillGreedy.mono_l k
 unfold stickfullaw14_FillGreedy.f
 repeat' first
   | (with_reducible exact ih0 _ _ _ _ _ _ _)
   | (with_reducible exact ih1 _ _ _ _ _ _ _ _ _ _ _ _ _ _)
   | (with_reducible exact ih2 _ _ _ _ _ _ _ _ _ _ _ _ _ _ _ _ _)
   | (with_reducible exact ih3 _ _ _ _ _ _ _ _ _ _ _)
   | (with_reducible exact fill_Ends.mono _ _ _)
   | (with_reducible exact fill_Lines.mono _ _ _ _ _ _)
   | (with_reducible exact stickfullaw14_head.mono _)
   | (with_reducible exact LeO.refl _)
   | (with_reducible exact LeO.none _)
   | (with_reducible refine LeO.ite ?_ ?_)
   | (with_reducible refine LeO.bind ?_ (fun _ => ?_))
   | exact ih0 _ _ _ _ _ _ _
   | exact ih1 _ _ _ _ _ _ _ _ _ _ _ _ _ _
   | exact ih2 _ _ _ _ _ _ _ _ _ _ _ _ _ _ _ _ _
   | exact ih3 _ _ _ _ _ _ _ _ _ _ _
   | exact fill_Ends.mono _ _ _
   | exact fill_Lines.mono _ _ _ _ _ _
   | exact stickfullaw14_head.mono _
   | exact LeO.none _
   | refine LeO.ite ?_ ?_
   | refine LeO.bind ?_ (fun _ => ?_)
def stickfullaw14_FillGreedy.T12 : Bool × List (List Nat × List Nat) := (true, [([], []), ([], []), ([1], [1]), ([], []), ([3], [3]), ([0, 2, 4], [0, 2, 4]), ([], []), ([6], [6]), ([5, 7], [5, 7]), ([8], [8]), ([9], [9]), ([9], [9]), ([10, 8, 0, 1, 2, 3, 4, 5, 6, 7, 8, 9, 10], [10]), ([11, 12, 0, 1, 2, 3, 4, 5, 6, 7, 8, 9, 10, 11, 12], [11])])
def stickfullaw14_FillGreedy.B12 : List Nat := [0, 0, 2, 0, 8, 31, 0, 64, 255, 511, 1023, 1023, 2047, 8191]
theorem stickfullaw14_FillGreedy.tab12 : rtab .any (opsOf Try.f5 12) = stickfullaw14_FillGreedy.T12 := by kernel_rfl
theorem stickfullaw14_FillGreedy.bits12 : waitsOk stickfullaw14_FillGreedy.T12.2 stickfullaw14_FillGreedy.B12 = true := by kernel_rfl
def stickfullaw14_FillGreedy.T19 : Bool × List (List Nat × List Nat) := (true, [([], []), ([], []), ([1], [1]), ([], []), ([], []), ([3, 4], [3, 4]), ([5], [5]), ([0, 2, 6], [0, 2, 6]), ([], []), ([8], [8]), ([7, 9], [7, 9]), ([10], [10]), ([11], [11]), ([11], [11]), ([12, 10, 0, 1, 2, 3, 4, 5, 6, 7, 8, 9, 10, 11, 12], [12]), ([13, 14, 0, 1, 2, 3, 4, 5, 6, 7, 8, 9, 10, 11, 12, 13, 14], [13])])
def stickfullaw14_FillGreedy.B19 : List Nat := [0, 0, 2, 0, 0, 24, 56, 127, 0, 256, 1023, 2047, 4095, 4095, 8191, 32767]
theorem stickfullaw14_FillGreedy.tab19 : rtab .any (opsOf Try.f5 19) = stickfullaw14_FillGreedy.T19 := by kernel_rfl
theorem stickfullaw14_FillGreedy.bits19 : waitsOk stickfullaw14_FillGreedy.T19.2 stickfullaw14_FillGreedy.B19 = true := by kernel_rfl
def stickfullaw14_FillGreedy.T20 : Bool × List (List Nat × List Nat) := (true, [([], []), ([], []), ([0, 1], [0, 1]), ([2], [2]), ([], []), ([4], [4]), ([3, 5], [3, 5]), ([6], [6]), ([7], [7]), ([8, 7], [7, 8]), ([9, 7, 7], [7, 9]), ([10], [10]), ([11, 10], [10, 11]), ([10, 12, 7], [7, 10, 12]), ([13, 10, 7], [7, 13]), ([14], [14]), ([14], [14]), ([16, 14], [14, 16]), ([15, 17, 14], [14, 15, 17]), ([14, 18, 7], [7, 14, 18]), ([7, 19], [7, 19])])
def stickfullaw14_FillGreedy.B20 : List Nat := [0, 0, 3, 7, 0, 16, 63, 127, 255, 511, 1023, 2047, 4095, 8191, 16383, 32767, 32767, 98303, 262143, 524287, 1048575]
theorem stickfullaw14_FillGreedy.tab20 : rtab .any (opsOf Try.f5 20) = stickfullaw14_FillGreedy.T20 := by kernel_rfl
theorem stickfullaw14_FillGreedy.bits20 : waitsOk stickfullaw14_FillGreedy.T20.2 stickfullaw14_FillGreedy.B20 = true := by kernel_rfl
def stickfullaw14_FillGreedy.T22 : Bool × List (List Nat × List Nat) := (true, [([], []), ([], []), ([0, 1], [0, 1]), ([2], [2]), ([], []), ([4], [4]), ([3, 5], [3, 5]), ([6], [6]), ([7], [7]), ([8, 7], [7, 8]), ([9, 7, 7], [7, 9]), ([10], [10]), ([11, 10, 10], [10, 11]), ([12], [12]), ([12], [12]), ([14, 12], [12, 14]), ([13, 15, 12], [12, 13, 15]), ([16, 12], [12, 16]), ([12], [12]), ([18, 12], [12, 18]), ([17, 19, 12], [12, 17, 19]), ([12, 20, 10], [10, 12, 20]), ([10, 21, 7], [7, 10, 21]), ([7, 22], [7, 22]), ([23, 12], [23]), ([24], [24]), ([25, 24], [24, 25]), ([24, 26], [24, 26]), ([27, 24], [27]), ([28], [28]), ([28], [28]), ([30, 28], [28, 30]), ([29, 31, 28], [28, 29, 31]), ([28, 32], [28, 32])])
def stickfullaw14_FillGreedy.B22 : List Nat := [0, 0, 3, 7, 0, 16, 63, 127, 255, 511, 1023, 2047, 4095, 8191, 8191, 24575, 65535, 131071, 8191, 270335, 1048575, 2097151, 4194303, 8388607, 16777215, 33554431, 67108863, 134217727, 268435455, 536870911, 536870911, 1610612735, 4294967295, 8589934591]
theorem stickfullaw14_FillGreedy.tab22 : rtab .any (opsOf Try.f5 22) = stickfullaw14_FillGreedy.T22 := by kernel_rfl
theorem stickfullaw14_FillGreedy.bits22 : waitsOk stickfullaw14_FillGreedy.T22.2 stickfullaw14_FillGreedy.B22 = true := by kernel_rfl
def stickfullaw14_FillGreedy.T27 : Bool × List (List Nat × List Nat) := (true, [([], []), ([], []), ([0, 1], [0, 1]), ([2], [2]), ([], []), ([4], [4]), ([3, 5], [3, 5]), ([6], [6]), ([7], [7]), ([8, 7], [7, 8]), ([7, 9], [7, 9])])
def stickfullaw14_FillGreedy.B27 : List Nat := [0, 0, 3, 7, 0, 16, 63, 127, 255, 511, 1023]
theorem stickfullaw14_FillGreedy.tab27 : rtab .any (opsOf Try.f5 27) = stickfullaw14_FillGreedy.T27 := by kernel_rfl
theorem stickfullaw14_FillGreedy.bits27 : waitsOk stickfullaw14_FillGreedy.T27.2 stickfullaw14_FillGreedy.B27 = true := by kernel_rfl
set_option maxHeartbeats 8000000 in
set_option maxRecDepth 100000 in
theorem stickfullaw14_FillGreedy.calls_t (k : Nat) (A0 : Option Addr) (c0 : Nat) (l0 : List (S44)) (a1_0 a1_1 a2_0 a2_1 : Int) (r : Bool) (w : World) (hr0 : Kd.C k44 w A0 l0.length l0) (hc0 : l0.length ≤ c0) (h : stickfullaw14_FillGreedy.f k l0 a1_0 a1_1 a2_0 a2_1 = some r) (hr_ : r = true) :
  Calls Try.prog 5 #[.slice A0 l0.length c0, .agg #[.int .i64 a1_0, .int .i64 a1_1], .agg #[.int .i64 a2_0, .int .i64 a2_1]] w fun e w' => e = .returned (.bool r) ∧ Below w.heap.size w w' := by
 have hu24 := Try.underlying24
 have hu35 := Try.underlying35
 have HR_ := Aside0.mk hr_
 clear hr_
 have HR0 := Aside0.mk hr0
 have HC0 := Aside0.mk hc0
 clear hr0 hc0
 have HB := Aside0.mk (Below.refl w.heap.size w)
 have H : (if (l0.length : Int) > 80 then ((stickfullaw14_head.f k).bind fun t276 => (some t276)) else ((fill_Lines.f k l0 a1_0 a1_1 a2_0 a2_1).bind fun bt277 => (if bt277.2 = 0 then (stickfullaw14_FillGreedy.l0 k l0 bt277.1 0 a2_0 a2_1 a1_0 a1_1) else ((stickfullaw14_head.f k).bind fun t281 => (some t281))))) = some r := h
 clear h
 by_cases c4 : (l0.length : Int) > 80
 ·rw [if_pos c4] at H
  have c4b0 : decide (80 < (l0.length : Int)) = true := decide_eq_true c4
  have c4b1 : decide (80 < l0.length) = true := decide_eq_true (by omega)
  clear c4
  replace H := Option.bind_eq_some_iff.mp H
  obtain ⟨t276, A50, H⟩ := H
  replace H : (some t276) = some r := H
  have A5 := Aside0.mk A50
  clear A50
  obtain rfl := Option.some.inj H
  go_enter Try.func5, Try.ntmps5
  go_wp2_with (first | ((with_reducible refine gate_dst (N := 4) rfl ?_); refine box_event ?hg (N := 4) ?hd (cs := #[.int .i64 a1_0, .int .i64 a1_1]) (t := 24) ?hr ?_; (case hd => rfl); (case hg => rfl); (case hr => first | (go_simp; done) | (go_simp; rfl)); intro gb274 hg w6 hbox hb; have BK274 := Aside0.mk (hbox); have GW274 := bge HB hg; have GE274 := bge HB hg; replace HB := bh HB hb; clear hb hbox hg) | ((with_reducible refine gate_dst (N := 5) rfl ?_); refine box_event ?hg (N := 5) ?hd (cs := #[.int .i64 a2_0, .int .i64 a2_1]) (t := 24) ?hr ?_; (case hd => rfl); (case hg => rfl); (case hr => first | (go_simp; done) | (go_simp; rfl)); intro gb275 hg w7 hbox hb; have BK275 := Aside0.mk (hbox); have GW275 := bge HB hg; have GE275 := bge HB hg; replace HB := bh HB hb; have NB274_275 := nbl BK274 hg; have NB275_274 := nbg BK274 hg; replace BK274 := bb BK274 hb; clear hb hbox hg) | ((with_reducible refine gate_callee (f := 8) rfl ?_); refine goesB (some 25) rfl rfl Try.func8 #[] rfl ?_; (with_reducible refine (stickfullaw14_head.calls k  t276 _ A5.out).mono ?_); rintro e w8 ⟨rfl, hb⟩; refine ⟨_, rfl, ?_⟩; replace BK274 := bb BK274 hb; replace BK275 := bb BK275 hb; replace HB := bh HB hb; (try clear hb); (try clear hb2); (try clear hk); (try clear hi)))
  go_ret
  exact ⟨by first | rfl | (simp [errW_none, errW_some] <;> rfl) | (simp [*, errW_none, errW_some] <;> rfl), by repeat (first | (with_reducible first | exact HB.out | apply below_alloc | apply pw_below_drewN | apply below_drew1 | refine below_set ?_ GE274.out | refine below_set ?_ GE275.out) | exact HB.out)⟩
 ·rw [if_neg c4] at H
  have c4b0 : decide (80 < (l0.length : Int)) = false := decide_eq_false c4
  have c4b1 : decide (80 < l0.length) = false := decide_eq_false (by omega)
  clear c4
  replace H := Option.bind_eq_some_iff.mp H
  obtain ⟨⟨t277, t280⟩, A90, H⟩ := H
  replace H : (if t280 = 0 then (stickfullaw14_FillGreedy.l0 k l0 t277 0 a2_0 a2_1 a1_0 a1_1) else ((stickfullaw14_head.f k).bind fun t281 => (some t281))) = some r := H
  have A9 := Aside0.mk A90
  clear A90
  by_cases c10 : t280 = 0
  ·rw [if_pos c10] at H
   have c10b0 : (t280 == 0) = true := beq_iff_eq.mpr c10
   have c10b1 : (t280 != 0) = false := bne_eq_false_iff_eq.mpr c10
   clear c10
   have H' := Aside0.mk H
   clear H
   go_enter Try.func5, Try.ntmps5
   go_wp2_with (first | ((with_reducible refine gate_dst (N := 4) rfl ?_); refine box_event ?hg (N := 4) ?hd (cs := #[.int .i64 a1_0, .int .i64 a1_1]) (t := 24) ?hr ?_; (case hd => rfl); (case hg => rfl); (case hr => first | (go_simp; done) | (go_simp; rfl)); intro gb274 hg w11 hbox hb; have BK274 := Aside0.mk (hbox); have GW274 := bge HB hg; have GE274 := bge HB hg; replace HB := bh HB hb; clear hb hbox hg) | ((with_reducible refine gate_dst (N := 5) rfl ?_); refine box_event ?hg (N := 5) ?hd (cs := #[.int .i64 a2_0, .int .i64 a2_1]) (t := 24) ?hr ?_; (case hd => rfl); (case hg => rfl); (case hr => first | (go_simp; done) | (go_simp; rfl)); intro gb275 hg w12 hbox hb; have BK275 := Aside0.mk (hbox); have GW275 := bge HB hg; have GE275 := bge HB hg; replace HB := bh HB hb; have NB274_275 := nbl BK274 hg; have NB275_274 := nbg BK274 hg; replace BK274 := bb BK274 hb; clear hb hbox hg; have hnb13 := NB274_275.out; have hnc13 := NB275_274.out; obtain ⟨hcz14_0, hcz14_1⟩ := cz2 BK274; obtain ⟨hfz14_0, hfz14_1⟩ := fz2 BK274; obtain ⟨hcz15_0, hcz15_1⟩ := cz2 BK275; obtain ⟨hfz15_0, hfz15_1⟩ := fz2 BK275) | ((with_reducible refine gate_callee (f := 9) rfl ?_); refine goesB (some 30) rfl rfl Try.func9 #[.slice A0 l0.length c0, .agg #[.int .i64 a1_0, .int .i64 a1_1], .agg #[.int .i64 a2_0, .int .i64 a2_1]] rfl ?_; (with_reducible refine (fill_Lines.calls k _ _ l0 a1_0 a1_1 a2_0 a2_1 t277 t280 _ ?side1 ?side2 A9.out).mono ?_); (case side1 => repeat (first | exact (Kd.C_below HR0.out HB.out) | (with_reducible refine Kd.C_alloc ?_ _) | (with_reducible refine Kd.C_drewN ?_ _) | (with_reducible refine Kd.C_drew ?_))); (case side2 => exact HC0.out); rintro e w16 ⟨v278, rfl, ho0, hb⟩; refine ⟨_, rfl, ?_⟩; have HO279 := Aside0.mk (Kd.R_lower ho0 (below_size (bw HB))); replace BK274 := bb BK274 hb; replace BK275 := bb BK275 hb; replace HB := bh HB hb; (try clear hb); (try clear hb2); (try clear hk); (try clear hi); (try clear ho0); obtain ⟨hcz17_0, hcz17_1⟩ := cz2 BK274; obtain ⟨hfz17_0, hfz17_1⟩ := fz2 BK274) | ((with_reducible refine gate_dst (N := 9) rfl ?_); refine box_event ?hg (N := 9) ?hd (cs := #[.int .i64 0, .int .i64 0]) (t := 24) ?hr ?_; (case hd => rfl); (case hg => rfl); (case hr => first | (go_simp; done) | (go_simp; rfl)); intro gb282 hg w18 hbox hb; replace HO279 := Aside0.mk (Kd.R_below (rx HO279) hb); have BK282 := Aside0.mk (hbox); have GW282 := bge HB hg; have GE282 := bge HB hg; replace HB := bh HB hb; have NB274_282 := nbl BK274 hg; have NB282_274 := nbg BK274 hg; replace BK274 := bb BK274 hb; have NB275_282 := nbl BK275 hg; have NB282_275 := nbg BK275 hg; replace BK275 := bb BK275 hb; clear hb hbox hg; have hnb19 := NB282_274.out; have hnc19 := NB274_282.out; have hnb20 := NB282_275.out; have hnc20 := NB275_282.out; obtain ⟨hcz21_0, hcz21_1⟩ := cz2 BK282; obtain ⟨hfz21_0, hfz21_1⟩ := fz2 BK282))
   go_loopg [10] k (fun kq v10 w' => ∃ (x10_1 x283000_1 x283001_1 : Int), v10 = .int .i64 x10_1 ∧ Aside0 (stickfullaw14_FillGreedy.l0 kq l0 t277 x10_1 a2_0 a2_1 x283000_1 x283001_1 = some r) ∧ Aside0 (kq ≤ k) ∧ Aside0 (Kd.R k35 35 w' w.heap.size (fun _ => True) v278 t277) ∧ Aside0 (w'.heap[gb274]? = some (.cells #[.int .i64 a1_0, .int .i64 a1_1] 24 (0, 0))) ∧ Aside0 (w'.heap[gb275]? = some (.cells #[.int .i64 a2_0, .int .i64 a2_1] 24 (0, 0))) ∧ Aside0 (w'.heap[gb282]? = some (.cells #[.int .i64 x283000_1, .int .i64 x283001_1] 24 (0, 0))) ∧ Aside0 (Below w.heap.size w w'))
   case atStart => exact ⟨(0), (a1_0), (a1_1), (by first | rfl | (simp; done) | (simp [*]; done)), H', ⟨Nat.le_refl _⟩, ⟨by (with_reducible repeat (first | apply Kd.R_alloc | apply Kd.R_drewN | apply Kd.R_drew)); exact Kd.R_mono (Kd.R_far (p := ⟨gb282, 1, none⟩) (Kd.R_far (p := ⟨gb282, 0, none⟩) (Kd.R_types HO279.out BK282.out (by decide)) (fun _ hk => hk.2) (.int .i64 a1_0)) (fun _ hk => hk.2) (.int .i64 a1_1)) (fun _ hk => trivial)⟩, ⟨by (with_reducible repeat (first | refine blk_drewN ?_ _ | refine blk_drew ?_ | refine blk_alloc ?_ _)); refine blk_far ?_ NB274_282.out _; (with_reducible repeat (first | refine blk_drewN ?_ _ | refine blk_drew ?_ | refine blk_alloc ?_ _)); refine blk_far ?_ NB274_282.out _; (with_reducible repeat (first | refine blk_drewN ?_ _ | refine blk_drew ?_ | refine blk_alloc ?_ _)); exact BK274.out⟩, ⟨by (with_reducible repeat (first | refine blk_drewN ?_ _ | refine blk_drew ?_ | refine blk_alloc ?_ _)); refine blk_far ?_ NB275_282.out _; (with_reducible repeat (first | refine blk_drewN ?_ _ | refine blk_drew ?_ | refine blk_alloc ?_ _)); refine blk_far ?_ NB275_282.out _; (with_reducible repeat (first | refine blk_drewN ?_ _ | refine blk_drew ?_ | refine blk_alloc ?_ _)); exact BK275.out⟩, ⟨by (with_reducible repeat (first | refine blk_drewN ?_ _ | refine blk_drew ?_ | refine blk_alloc ?_ _)); refine blk_put (cs := #[.int .i64 a1_0, .int .i64 0]) ?_ 1 _ rfl; (with_reducible repeat (first | refine blk_drewN ?_ _ | refine blk_drew ?_ | refine blk_alloc ?_ _)); refine blk_put (cs := #[.int .i64 0, .int .i64 0]) ?_ 0 _ rfl; (with_reducible repeat (first | refine blk_drewN ?_ _ | refine blk_drew ?_ | refine blk_alloc ?_ _)); exact BK282.out⟩, ⟨by repeat (first | (with_reducible first | exact HB.out | apply below_alloc | apply pw_below_drewN | apply below_drew1 | refine below_set ?_ GE274.out | refine below_set ?_ GE275.out | refine below_set ?_ GE282.out) | exact HB.out)⟩⟩
   case round =>
    clear H'
    try clear c1
    try clear c2
    try clear p2
    try clear c4
    try clear c4b0
    try clear c4b1
    try clear c5
    try clear c8
    try clear c9
    try clear c10
    try clear c10b0
    try clear c10b1
    try clear c13
    try clear c19
    try clear c20
    try clear hcz14_0
    try clear hcz14_1
    try clear hcz15_0
    try clear hcz15_1
    try clear hcz17_0
    try clear hcz17_1
    try clear hcz21_0
    try clear hcz21_1
    try clear hfz14_0
    try clear hfz14_1
    try clear hfz15_0
    try clear hfz15_1
    try clear hfz17_0
    try clear hfz17_1
    try clear hfz21_0
    try clear hfz21_1
    obtain ⟨x10_1, x283000_1, x283001_1, rfl, HA, HK1, HO_7, BK274, BK275, BK282, HB⟩ := hrel
    cases gk with
    | zero => exact absurd HA.out (by simp [stickfullaw14_FillGreedy.l0])
    | succ k1 =>
     have H := HA.out
     clear HA
     simp only [stickfullaw14_FillGreedy.l0] at H
     by_cases c22 : x10_1 < (t277.length : Int)
     ·rw [if_pos c22] at H
      have c22b0 : decide (x10_1 < (t277.length : Int)) = true := decide_eq_true c22
      clear c22
      by_cases c23 : 0 ≤ x10_1
      ·rw [if_pos c23] at H
       have c23b0 : decide (0 ≤ x10_1) = true := decide_eq_true c23
       clear c23
       replace H := Option.bind_eq_some_iff.mp H
       obtain ⟨⟨t286, t287, t288⟩, A240, H⟩ := H
       replace H : (if 0 ≤ ((rd_T35 t277 x10_1).f0) then (if ((rd_T35 t277 x10_1).f0) ≤ ((rd_T35 t277 x10_1).f1) then (if ((rd_T35 t277 x10_1).f1) ≤ (l0.length : Int) then ((trim_Fits.f ((l0.take (((rd_T35 t277 x10_1).f1) : Int).toNat).drop (((rd_T35 t277 x10_1).f0) : Int).toNat) x283001_1).bind fun bt297 => (if bt297.2 = 0 then (stickfullaw14_FillGreedy.l1 k1 l0 t277 x10_1 t286 t287 (decide (bt297.1 ≤ x283000_1)) 0 a2_0 a2_1 x283000_1 x283001_1 ((rd_T35 t277 x10_1).f0) ((rd_T35 t277 x10_1).f1) ((rd_T35 t277 x10_1).f2)) else (some false))) else (none)) else (none)) else (none)) = some r := H
       have A24 := Aside0.mk A240
       clear A240
       by_cases c25 : 0 ≤ ((rd_T35 t277 x10_1).f0)
       ·rw [if_pos c25] at H
        have c25b0 := eq_true c25
        have c25b1 : decide (0 ≤ ((rd_T35 t277 x10_1).f0)) = true := decide_eq_true c25
        clear c25
        by_cases c26 : ((rd_T35 t277 x10_1).f0) ≤ ((rd_T35 t277 x10_1).f1)
        ·rw [if_pos c26] at H
         have c26b0 := eq_true c26
         have c26b1 : decide (((rd_T35 t277 x10_1).f0) ≤ ((rd_T35 t277 x10_1).f1)) = true := decide_eq_true c26
         clear c26
         by_cases c27 : ((rd_T35 t277 x10_1).f1) ≤ (l0.length : Int)
         ·rw [if_pos c27] at H
          have c27b0 := eq_true c27
          have c27b1 : decide (((rd_T35 t277 x10_1).f1) ≤ (l0.length : Int)) = true := decide_eq_true c27
          clear c27
          obtain ⟨y293, hy293⟩ : ∃ y_ : List (S44), y_ = ((l0.take (((rd_T35 t277 x10_1).f1) : Int).toNat).drop (((rd_T35 t277 x10_1).f0) : Int).toNat) := ⟨_, rfl⟩
          replace H : ((trim_Fits.f y293 x283001_1).bind fun bt297 => (if bt297.2 = 0 then (stickfullaw14_FillGreedy.l1 k1 l0 t277 x10_1 t286 t287 (decide (bt297.1 ≤ x283000_1)) 0 a2_0 a2_1 x283000_1 x283001_1 ((rd_T35 t277 x10_1).f0) ((rd_T35 t277 x10_1).f1) ((rd_T35 t277 x10_1).f2)) else (some false))) = some r := by first | (rw [hy293]; with_reducible exact H) | (have H2_ := (Option.bind_some _ _).symm.trans H; rw [hy293]; with_reducible exact H2_) | (have H2_ := (Option.bind_some _ _).symm.trans H; with_reducible exact H2_) | with_reducible exact H | (rw [hy293]; exact H) | exact H
          have Ny293 := Aside0.mk hy293
          clear hy293
          replace H := Option.bind_eq_some_iff.mp H
          obtain ⟨⟨t297, t298⟩, A280, H⟩ := H
          replace H : (if t298 = 0 then (stickfullaw14_FillGreedy.l1 k1 l0 t277 x10_1 t286 t287 (decide (t297 ≤ x283000_1)) 0 a2_0 a2_1 x283000_1 x283001_1 ((rd_T35 t277 x10_1).f0) ((rd_T35 t277 x10_1).f1) ((rd_T35 t277 x10_1).f2)) else (some false)) = some r := H
          have A28 := Aside0.mk A280
          clear A280
          by_cases c29 : t298 = 0
          ·rw [if_pos c29] at H
           have c29b0 : (t298 == 0) = true := beq_iff_eq.mpr c29
           have c29b1 : (t298 != 0) = false := bne_eq_false_iff_eq.mpr c29
           clear c29
           have H' := Aside0.mk H
           clear H
           obtain ⟨Ao30, co30, eo30⟩ := Kd.R_slice HO_7.out
           subst eo30
           have p284 : 0 ≤ (x10_1 : Int) := of_decide_eq_true (by first | (with_reducible assumption) | assumption)
           have q284 : x10_1 < (t277.length : Int) := of_decide_eq_true (by first | (with_reducible assumption) | assumption)
           obtain ⟨ad284, e284, hx284_0, hx284_1, hx284_2⟩ := at_T35 (Kd.R_reads' HO_7.out).2.2 x10_1 p284 q284
           cases e284
           replace p284 := eq_true p284
           replace q284 := eq_true q284
           try go_wp2_with (first | ((with_reducible refine gate_dst (N := 11) rfl ?_); refine box_event ?hg (N := 11) ?hd (cs := #[.int .i64 0, .int .i64 0, .bool false]) (t := 35) ?hr ?_; (case hd => rfl); (case hg => rfl); (case hr => first | (go_simp; done) | (go_simp; rfl)); intro gb285 hg w31 hbox hb; replace HO_7 := Aside0.mk (Kd.R_below (Kd.R_elderB (rx HO_7) gb285 (Nat.le_of_eq hg.symm)) hb); have BK285 := Aside0.mk (hbox); have GW285 := bge HB hg; have GE285 := bge HB hg; replace HB := bh HB hb; have NB274_285 := nbl BK274 hg; have NB285_274 := nbg BK274 hg; replace BK274 := bb BK274 hb; have NB275_285 := nbl BK275 hg; have NB285_275 := nbg BK275 hg; replace BK275 := bb BK275 hb; have NB282_285 := nbl BK282 hg; have NB285_282 := nbg BK282 hg; replace BK282 := bb BK282 hb; clear hb hbox hg; have hnb32 := NB285_274.out; have hnc32 := NB274_285.out; have hnb33 := NB285_275.out; have hnc33 := NB275_285.out; have hnb34 := NB285_282.out; have hnc34 := NB282_285.out; obtain ⟨hcz35_0, hcz35_1, hcz35_2⟩ := cz3 BK285; obtain ⟨hfz35_0, hfz35_1, hfz35_2⟩ := fz3 BK285) | ((with_reducible refine gate_callee (f := 12) rfl ?_); refine goesB (some 51) rfl rfl Try.func12 #[.slice A0 l0.length c0, .int .i64 ((rd_T35 t277 x10_1).f0)] rfl ?_; (with_reducible refine (fill_Ends.calls k1 _ _ l0 ((rd_T35 t277 x10_1).f0) t286 t287 t288 _ ?side1 ?side2 A24.out).mono ?_); (case side1 => exact Kd.C_below HR0.out (bw HB)); (case side2 => exact HC0.out); rintro e w36 ⟨v289, v291, rfl, ho0, ho1, hb⟩; refine ⟨_, rfl, ?_⟩; replace HO_7 := Aside0.mk (Kd.R_below (by (with_reducible repeat (first | apply Kd.R_alloc | apply Kd.R_drewN | apply Kd.R_drew)); exact (Kd.R_mono (Kd.R_far (p := ⟨gb285, 2, none⟩) (Kd.R_far (p := ⟨gb285, 1, none⟩) (Kd.R_far (p := ⟨gb285, 0, none⟩) (Kd.R_mono HO_7.out (fun k_ hk => (⟨hk, hk.2⟩ : _ ∧ k_ ≠ gb285))) (fun _ hk => hk.2) (.int .i64 ((rd_T35 t277 x10_1).f0))) (fun _ hk => hk.2) (.int .i64 ((rd_T35 t277 x10_1).f1))) (fun _ hk => hk.2) (.bool ((rd_T35 t277 x10_1).f2))) (fun _ h_ => h_.1))) hb); have HO290 := Aside0.mk (Kd.R_lower ho0 (below_size (bw HB))); have HO292 := Aside0.mk (Kd.R_lower ho1 (below_size (bw HB))); replace BK274 := bb BK274 hb; replace BK275 := bb BK275 hb; replace BK282 := bb BK282 hb; replace BK285 := Aside0.mk (blk_below (o := .cells #[.int .i64 ((rd_T35 t277 x10_1).f0), .int .i64 ((rd_T35 t277 x10_1).f1), .bool ((rd_T35 t277 x10_1).f2)] 35 (0, 0)) (bp BK285) hb); replace HB := bh HB hb; (try clear hb); (try clear hb2); (try clear hk); (try clear hi); (try clear ho0); (try clear ho1)))
           replace HO_7 := Aside0.mk (Kd.R_drew HO_7.out)
           replace HO290 := Aside0.mk (Kd.R_drew HO290.out)
           replace HO292 := Aside0.mk (Kd.R_drew HO292.out)
           replace BK274 := Aside0.mk (blk_drew BK274.out)
           replace BK275 := Aside0.mk (blk_drew BK275.out)
           replace BK282 := Aside0.mk (blk_drew BK282.out)
           replace BK285 := Aside0.mk (blk_drew BK285.out)
           replace HB := Aside0.mk (below_drew1 HB.out)
           have q38 : (((rd_T35 t277 x10_1).f1) : Int) ≤ ((l0.length : Int) : Int) := of_decide_eq_true (by first | (with_reducible assumption) | assumption)
           obtain ⟨i038, hi038, _, hsz38, _⟩ := info_parts info44
           have hroom38 : l0.length ≤ c0 := HC0.out
           have hC38 : Kd.C k44 _ A0 l0.length l0 := HR0.out
           have ql38 : (((rd_T35 t277 x10_1).f0) : Int) ≤ (((rd_T35 t277 x10_1).f1) : Int) := of_decide_eq_true (by first | (with_reducible assumption) | assumption)
           have q038 : (0 : Int) ≤ (((rd_T35 t277 x10_1).f0) : Int) := of_decide_eq_true (by first | (with_reducible assumption) | assumption)
           have hcut38 := cut_mid (P := Try.prog) 22 44 .i64 .i64 Try.underlying22 hi038 6 hsz38 A0 l0.length c0 ((rd_T35 t277 x10_1).f0) ((rd_T35 t277 x10_1).f1) q038 ql38 q38 hroom38
           have hr38 := Kd.C_mid (lo := (((rd_T35 t277 x10_1).f0) : Int).toNat) (hi := (((rd_T35 t277 x10_1).f1) : Int).toNat) (c := c0) hC38 (by omega) (by omega) hroom38
           obtain ⟨A38, hA38⟩ : ∃ A1, A1 = (if c0 = (((rd_T35 t277 x10_1).f0) : Int).toNat then A0 else (A0 : Option Addr).map (·.add ((((rd_T35 t277 x10_1).f0) : Int).toNat * 6))) := ⟨_, rfl⟩
           obtain ⟨c38, hc38⟩ : ∃ c1, c1 = c0 - (((rd_T35 t277 x10_1).f0) : Int).toNat := ⟨_, rfl⟩
           have hy38 : y293.length = (((rd_T35 t277 x10_1).f1) : Int).toNat - (((rd_T35 t277 x10_1).f0) : Int).toNat := (by rw [Ny293.out, List.length_drop, List.length_take] <;> omega)
           rw [show ((l0).take (((rd_T35 t277 x10_1).f1) : Int).toNat).drop (((rd_T35 t277 x10_1).f0) : Int).toNat = y293 from Ny293.out.symm] at hr38
           replace hr38 : Kd.C k44 _ A38 y293.length y293 := (by rw [hA38]; exact hr38)
           rw [← hy38, ← hA38, ← hc38] at hcut38
           have HR296 := Aside0.mk hr38
           have HC296 := Aside0.mk (show y293.length ≤ c38 from by rw [hy38, hc38]; exact Nat.sub_le_sub_right (Nat.le_trans (by omega) hroom38) _)
           clear hr38 hC38 hroom38 hi038 hsz38 hc38
           have KY38 := Aside0.mk hy38
           have KA38 := Aside0.mk hA38
           clear hy38 hA38
           replace q38 := eq_true q38
           refine start_ (n := 14) (S := fun w' => w'.cell? ⟨gb285, 0, none⟩ = some (.int .i64 ((rd_T35 t277 x10_1).f0)) ∧ w'.cell? ⟨gb285, 1, none⟩ = some (.int .i64 ((rd_T35 t277 x10_1).f1)) ∧ w'.cell? ⟨gb285, 2, none⟩ = some (.bool ((rd_T35 t277 x10_1).f2)) ∧ w'.cell? ⟨gb282, 0, none⟩ = some (.int .i64 x283000_1) ∧ w'.cell? ⟨gb282, 1, none⟩ = some (.int .i64 x283001_1)) (ds := []) (stickfullaw14_FillGreedy.bm 14 0) (by kernel_rfl) rfl rfl ⟨bc BK285 0, bc BK285 1, bc BK285 2, bc BK282 0, bc BK282 1⟩ (fun hHeld => ?_); refine with_tabW stickfullaw14_FillGreedy.tab12 stickfullaw14_FillGreedy.bits12 (fun HT_ HW_ => ?_)
           generalize w36.drew = w37 at HO_7 HO290 HO292 BK274 BK275 BK282 BK285 HB HR296 hHeld ⊢
           refine pure_ (i := 0) (N := some 56) (v := ?_) (a' := ?_) (stickfullaw14_FillGreedy.bm 14 1) rfl rfl (any_of HT_.out (by kernel_rfl)) (fun _ _ _ h => h) (Or.inl ⟨by rfl, ?_⟩) ?_ ?_
           rotate_left; (focus intro w'; go_simp; with_reducible rfl); rotate_left; (focus simp only [Act.put, List.setIfInBounds_toArray, List.set_cons_zero, List.set_cons_succ, i64_w, i32_w]; rfl)
           refine pure_ (i := 1) (N := some 57) (v := ?_) (a' := ?_) (stickfullaw14_FillGreedy.bm 14 3) rfl rfl (any_of HT_.out (by kernel_rfl)) (fun _ _ _ h => h) (Or.inl ⟨by rfl, ?_⟩) ?_ ?_
           rotate_left; (focus intro w'; go_simp; with_reducible rfl); rotate_left; (focus simp only [Act.put, List.setIfInBounds_toArray, List.set_cons_zero, List.set_cons_succ, i64_w, i32_w]; rfl)
           refine pure_ (i := 3) (N := some 59) (v := ?_) (a' := ?_) (stickfullaw14_FillGreedy.bm 14 11) rfl rfl (any_of HT_.out (by kernel_rfl)) (fun _ _ _ h => h) (Or.inl ⟨by rfl, ?_⟩) ?_ ?_
           rotate_left; (focus intro w'; go_simp; with_reducible rfl); rotate_left; (focus simp only [Act.put, List.setIfInBounds_toArray, List.set_cons_zero, List.set_cons_succ, i64_w, i32_w]; rfl)
           refine pure_ (i := 6) (N := some 62) (v := ?_) (a' := ?_) (stickfullaw14_FillGreedy.bm 14 75) rfl rfl (any_of HT_.out (by kernel_rfl)) (fun _ _ _ h => h) (Or.inl ⟨by rfl, ?_⟩) ?_ ?_
           rotate_left; (focus intro w'; go_simp; with_reducible rfl); rotate_left; (focus simp only [Act.put, List.setIfInBounds_toArray, List.set_cons_zero, List.set_cons_succ, i64_w, i32_w]; rfl)
           refine take_ (i := 2) (N := some 58) (v := ?_) (a' := ?_) (stickfullaw14_FillGreedy.bm 14 79) rfl rfl (take_ofW HT_.out HW_.out (by kernel_rfl)) (fun _ _ _ h => h) (Or.inl ⟨by rfl, ?_⟩) hHeld ?_ ?_
           rotate_left; (focus rintro w' ⟨s0, s1, s2, s3, s4⟩; go_simp; with_reducible rfl); rotate_left; (focus simp only [Act.put, List.setIfInBounds_toArray, List.set_cons_zero, List.set_cons_succ, i64_w, i32_w]; rfl)
           refine take_ (i := 4) (N := some 60) (v := ?_) (a' := ?_) (stickfullaw14_FillGreedy.bm 14 95) rfl rfl (take_ofW HT_.out HW_.out (by kernel_rfl)) (fun _ _ _ h => h) (Or.inl ⟨by rfl, ?_⟩) hHeld ?_ ?_
           rotate_left; (focus rintro w' ⟨s0, s1, s2, s3, s4⟩; go_simp; with_reducible rfl); rotate_left; (focus simp only [Act.put, List.setIfInBounds_toArray, List.set_cons_zero, List.set_cons_succ, i64_w, i32_w]; rfl)
           refine pure_ (i := 5) (N := some 61) (v := ?_) (a' := ?_) (stickfullaw14_FillGreedy.bm 14 127) rfl rfl (any_of HT_.out (by kernel_rfl)) (fun _ _ _ h => h) (Or.inl ⟨by rfl, ?_⟩) ?_ ?_
           rotate_left; (focus intro w'; go_simp; with_reducible rfl); rotate_left; (focus simp only [Act.put, List.setIfInBounds_toArray, List.set_cons_zero, List.set_cons_succ, i64_w, i32_w]; rfl)
           refine take_ (i := 7) (N := some 63) (v := ?_) (a' := ?_) (stickfullaw14_FillGreedy.bm 14 255) rfl rfl (take_ofW HT_.out HW_.out (by kernel_rfl)) (fun _ _ _ h => h) (Or.inl ⟨by rfl, ?_⟩) hHeld ?_ ?_
           rotate_left; (focus rintro w' ⟨s0, s1, s2, s3, s4⟩; go_simp; with_reducible rfl); rotate_left; (focus simp only [Act.put, List.setIfInBounds_toArray, List.set_cons_zero, List.set_cons_succ, i64_w, i32_w]; rfl)
           refine one_ (i := 8) (N := some 64) (stickfullaw14_FillGreedy.bm 14 511) rfl rfl (one_of HT_.out (by kernel_rfl)) (by decide) (fun K hK => ?_)
           refine goes_ Try.func15 (by kernel_rfl) rfl #[.slice A38 y293.length c38, .int .i64 x283001_1] (by rfl) rfl rfl (by (try simp only [List.map_toArray, List.map_cons, List.map_nil]); first | done | rfl | (simp only [List.length_drop, List.length_take]; rfl)) ?_
           with_reducible refine (trim_Fits.calls _ _ y293 x283001_1 t297 t298 _ ?side1 ?side2 A28.out).mono ?_
           (case side1 => repeat (first | exact (Kd.C_below HR296.out HB.out) | (with_reducible refine Kd.C_alloc ?_ _) | (with_reducible refine Kd.C_drewN ?_ _) | (with_reducible refine Kd.C_drew ?_)))
           (case side2 => exact HC296.out)
           rintro e w39 ⟨rfl, hb⟩
           refine ⟨_, rfl, ?_⟩
           replace HO_7 := Aside0.mk (Kd.R_below (rx HO_7) hb)
           replace HO290 := Aside0.mk (Kd.R_below (rx HO290) hb)
           replace HO292 := Aside0.mk (Kd.R_below (rx HO292) hb)
           replace BK274 := bb BK274 hb
           replace BK275 := bb BK275 hb
           replace BK282 := bb BK282 hb
           replace BK285 := bb BK285 hb
           replace HB := bh HB hb
           (try clear hb)
           (try clear hb2)
           (try clear hk)
           (try clear hi)
           refine hK.out _ _ ⟨bc BK285 0, bc BK285 1, bc BK285 2, bc BK282 0, bc BK282 1⟩ (fun hHeld => ?_)
           clear hK K
           refine norm_ (a' := ?_) ?_ ?_
           rotate_left; (focus show Act.put _ (some 64) _ = _; simp only [Act.put, List.setIfInBounds_toArray, List.set_cons_zero, List.set_cons_succ, i64_w, i32_w]; rfl)
           refine pure_ (i := 9) (N := some 55) (v := ?_) (a' := ?_) (stickfullaw14_FillGreedy.bm 14 1023) rfl rfl (any_of HT_.out (by kernel_rfl)) (fun _ _ _ h => h) (Or.inl ⟨by rfl, ?_⟩) ?_ ?_
           rotate_left; (focus intro w'; go_simp; with_reducible rfl); rotate_left; (focus simp only [Act.put, List.setIfInBounds_toArray, List.set_cons_zero, List.set_cons_succ, i64_w, i32_w]; rfl)
           refine pure_ (i := 10) (N := some 65) (v := ?_) (a' := ?_) (stickfullaw14_FillGreedy.bm 14 2047) rfl rfl (any_of HT_.out (by kernel_rfl)) (fun _ _ _ h => h) (Or.inl ⟨by rfl, ?_⟩) ?_ ?_
           rotate_left; (focus intro w'; go_simp; with_reducible rfl); rotate_left; (focus simp only [Act.put, List.setIfInBounds_toArray, List.set_cons_zero, List.set_cons_succ, i64_w, i32_w]; rfl)
           refine pure_ (i := 11) (N := some 66) (v := ?_) (a' := ?_) (stickfullaw14_FillGreedy.bm 14 4095) rfl rfl (any_of HT_.out (by kernel_rfl)) (fun _ _ _ h => h) (Or.inl ⟨by rfl, ?_⟩) ?_ ?_
           rotate_left; (focus intro w'; go_simp; with_reducible rfl); rotate_left; (focus simp only [Act.put, List.setIfInBounds_toArray, List.set_cons_zero, List.set_cons_succ, i64_w, i32_w]; rfl)
           refine pure_ (i := 12) (N := some 15) (v := ?_) (a' := ?_) (stickfullaw14_FillGreedy.bm 14 8191) rfl rfl (any_of HT_.out (by kernel_rfl)) (fun _ _ _ h => h) (Or.inl ⟨by rfl, ?_⟩) ?_ ?_
           rotate_left; (focus intro w'; go_simp; with_reducible rfl); rotate_left; (focus simp only [Act.put, List.setIfInBounds_toArray, List.set_cons_zero, List.set_cons_succ, i64_w, i32_w]; rfl)
           refine pure_ (i := 13) (N := some 16) (v := ?_) (a' := ?_) (stickfullaw14_FillGreedy.bm 14 16383) rfl rfl (any_of HT_.out (by kernel_rfl)) (fun _ _ _ h => h) (Or.inl ⟨by rfl, ?_⟩) ?_ ?_
           rotate_left; (focus intro w'; go_simp; with_reducible rfl); rotate_left; (focus simp only [Act.put, List.setIfInBounds_toArray, List.set_cons_zero, List.set_cons_succ, i64_w, i32_w]; rfl)
           refine done_ (done_of HT_.out (by kernel_rfl)) ?_
           have hnb40 := NB282_274.out
           have hnc40 := NB274_282.out
           have hnb41 := NB282_275.out
           have hnc41 := NB275_282.out
           obtain ⟨hcz42_0, hcz42_1⟩ := cz2 BK282
           obtain ⟨hfz42_0, hfz42_1⟩ := fz2 BK282
           try go_wp2
           go_loopg [18] k1 (fun kq v18 w' => ∃ (x18_2 : Int), v18 = .int .i64 x18_2 ∧ Aside0 (stickfullaw14_FillGreedy.l1 kq l0 t277 x10_1 t286 t287 (decide (t297 ≤ x283000_1)) x18_2 a2_0 a2_1 x283000_1 x283001_1 ((rd_T35 t277 x10_1).f0) ((rd_T35 t277 x10_1).f1) ((rd_T35 t277 x10_1).f2) = some r) ∧ Aside0 (kq ≤ k1) ∧ Aside0 (Kd.R k35 35 w' w.heap.size (fun k_ => k_ ≠ gb285) (.slice (some ad284) t277.length co30) t277) ∧ Aside0 (Kd.R (Kd.int .i64) 3 w' w.heap.size (fun k_ => some k_ ≠ (v291 : Value).ownBlock) v289 t286) ∧ Aside0 (Kd.R (Kd.int .i64) 3 w' w.heap.size (fun k_ => some k_ ≠ (v289 : Value).ownBlock) v291 t287) ∧ Aside0 (w'.heap[gb274]? = some (.cells #[.int .i64 a1_0, .int .i64 a1_1] 24 (0, 0))) ∧ Aside0 (w'.heap[gb275]? = some (.cells #[.int .i64 a2_0, .int .i64 a2_1] 24 (0, 0))) ∧ Aside0 (w'.heap[gb282]? = some (.cells #[.int .i64 x283000_1, .int .i64 x283001_1] 24 (0, 0))) ∧ Aside0 (w'.heap[gb285]? = some (.cells #[.int .i64 ((rd_T35 t277 x10_1).f0), .int .i64 ((rd_T35 t277 x10_1).f1), .bool ((rd_T35 t277 x10_1).f2)] 35 (0, 0))) ∧ Aside0 (Below w.heap.size w w'))
           case atStart => exact ⟨(0), (by first | rfl | (simp; done) | (simp [*]; done)), H', ⟨Nat.le_refl _⟩, ⟨by (with_reducible repeat (first | apply Kd.R_alloc | apply Kd.R_drewN | apply Kd.R_drew)); exact Kd.R_mono HO_7.out (fun _ hk => hk.2)⟩, ⟨by (with_reducible repeat (first | apply Kd.R_alloc | apply Kd.R_drewN | apply Kd.R_drew)); exact HO290.out⟩, ⟨by (with_reducible repeat (first | apply Kd.R_alloc | apply Kd.R_drewN | apply Kd.R_drew)); exact HO292.out⟩, ⟨by (with_reducible repeat (first | refine blk_drewN ?_ _ | refine blk_drew ?_ | refine blk_alloc ?_ _)); exact BK274.out⟩, ⟨by (with_reducible repeat (first | refine blk_drewN ?_ _ | refine blk_drew ?_ | refine blk_alloc ?_ _)); exact BK275.out⟩, ⟨by (with_reducible repeat (first | refine blk_drewN ?_ _ | refine blk_drew ?_ | refine blk_alloc ?_ _)); exact BK282.out⟩, ⟨by (with_reducible repeat (first | refine blk_drewN ?_ _ | refine blk_drew ?_ | refine blk_alloc ?_ _)); exact BK285.out⟩, ⟨by repeat (first | (with_reducible first | exact HB.out | apply below_alloc | apply pw_below_drewN | apply below_drew1 | refine below_set ?_ GE274.out | refine below_set ?_ GE275.out | refine below_set ?_ GE282.out | refine below_set ?_ GE285.out) | exact HB.out)⟩⟩
           case round =>
            clear H'
            try clear c1
            try clear c2
            try clear p2
            try clear q2
            try clear hx2
            try clear c3
            try clear q3
            try clear c4
            try clear c4b0
            try clear c4b1
            try clear c5
            try clear c8
            try clear c9
            try clear c10
            try clear c10b0
            try clear c10b1
            try clear c12
            try clear c13
            try clear c15
            try clear c19
            try clear c20
            try clear c22
            try clear c22b0
            try clear c23
            try clear c23b0
            try clear c25
            try clear c25b0
            try clear c25b1
            try clear c26
            try clear c26b0
            try clear c26b1
            try clear c27
            try clear c27b0
            try clear c27b1
            try clear p28
            try clear q28
            try clear hx28
            try clear c29
            try clear c29b0
            try clear c29b1
            try clear c32
            try clear c33
            try clear c34
            try clear c38
            try clear q38
            try clear c40
            try clear c41
            try clear hcz14_0
            try clear hcz14_1
            try clear hcz15_0
            try clear hcz15_1
            try clear hcz17_0
            try clear hcz17_1
            try clear hcz21_0
            try clear hcz21_1
            try clear hcz35_0
            try clear hcz35_1
            try clear hcz35_2
            try clear hcz42_0
            try clear hcz42_1
            try clear hfz14_0
            try clear hfz14_1
            try clear hfz15_0
            try clear hfz15_1
            try clear hfz17_0
            try clear hfz17_1
            try clear hfz21_0
            try clear hfz21_1
            try clear hfz35_0
            try clear hfz35_1
            try clear hfz35_2
            try clear hfz42_0
            try clear hfz42_1
            try clear hx284_0
            try clear hx284_1
            try clear hx284_2
            try clear p2
            try clear p284
            try clear q038
            try clear q284
            try clear q38
            obtain ⟨x18_2, rfl, HA, HK2, HO_7, HO_12, HO_13, BK274, BK275, BK282, BK285, HB⟩ := hrel
            cases gk with
            | zero => exact absurd HA.out (by simp [stickfullaw14_FillGreedy.l1])
            | succ k2 =>
             have H := HA.out
             clear HA
             simp only [stickfullaw14_FillGreedy.l1] at H
             by_cases c43 : x18_2 < (t286.length : Int)
             ·rw [if_pos c43] at H
              have c43b0 : decide (x18_2 < (t286.length : Int)) = true := decide_eq_true c43
              clear c43
              by_cases c44 : 0 ≤ x18_2
              ·rw [if_pos c44] at H
               have c44b0 : decide (0 ≤ x18_2) = true := decide_eq_true c44
               clear c44
               by_cases c45 : 0 ≤ ((rd_T35 t277 x10_1).f0)
               ·rw [if_pos c45] at H
                have c45b0 := eq_true c45
                have c45b1 : decide (0 ≤ ((rd_T35 t277 x10_1).f0)) = true := decide_eq_true c45
                clear c45
                by_cases c46 : ((rd_T35 t277 x10_1).f0) ≤ (rd t286 x18_2)
                ·rw [if_pos c46] at H
                 have c46b0 := eq_true c46
                 have c46b1 : decide (((rd_T35 t277 x10_1).f0) ≤ (rd t286 x18_2)) = true := decide_eq_true c46
                 clear c46
                 by_cases c47 : (rd t286 x18_2) ≤ (l0.length : Int)
                 ·rw [if_pos c47] at H
                  have c47b0 := eq_true c47
                  have c47b1 : decide ((rd t286 x18_2) ≤ (l0.length : Int)) = true := decide_eq_true c47
                  clear c47
                  obtain ⟨y300, hy300⟩ : ∃ y_ : List (S44), y_ = ((l0.take ((rd t286 x18_2) : Int).toNat).drop (((rd_T35 t277 x10_1).f0) : Int).toNat) := ⟨_, rfl⟩
                  replace H : ((trim_Fits.f y300 x283001_1).bind fun bt304 => (if (rd t286 x18_2) < ((rd_T35 t277 x10_1).f1) then (if (decide (t297 ≤ x283000_1)) = true then (if bt304.2 = 0 then (stickfullaw14_FillGreedy.j2 k2 l0 t277 x10_1 t286 t287 (decide (t297 ≤ x283000_1)) x18_2 bt304.1 bt304.2 (decide (bt304.1 > x283000_1)) a2_0 a2_1 x283000_1 x283001_1 ((rd_T35 t277 x10_1).f0) ((rd_T35 t277 x10_1).f1) ((rd_T35 t277 x10_1).f2)) else (stickfullaw14_FillGreedy.j2 k2 l0 t277 x10_1 t286 t287 (decide (t297 ≤ x283000_1)) x18_2 bt304.1 bt304.2 true a2_0 a2_1 x283000_1 x283001_1 ((rd_T35 t277 x10_1).f0) ((rd_T35 t277 x10_1).f1) ((rd_T35 t277 x10_1).f2))) else (stickfullaw14_FillGreedy.j2 k2 l0 t277 x10_1 t286 t287 (decide (t297 ≤ x283000_1)) x18_2 bt304.1 bt304.2 true a2_0 a2_1 x283000_1 x283001_1 ((rd_T35 t277 x10_1).f0) ((rd_T35 t277 x10_1).f1) ((rd_T35 t277 x10_1).f2))) else (stickfullaw14_FillGreedy.j2 k2 l0 t277 x10_1 t286 t287 (decide (t297 ≤ x283000_1)) x18_2 bt304.1 bt304.2 false a2_0 a2_1 x283000_1 x283001_1 ((rd_T35 t277 x10_1).f0) ((rd_T35 t277 x10_1).f1) ((rd_T35 t277 x10_1).f2)))) = some r := by first | (rw [hy300]; with_reducible exact H) | (have H2_ := (Option.bind_some _ _).symm.trans H; rw [hy300]; with_reducible exact H2_) | (have H2_ := (Option.bind_some _ _).symm.trans H; with_reducible exact H2_) | with_reducible exact H | (rw [hy300]; exact H) | exact H
                  have Ny300 := Aside0.mk hy300
                  clear hy300
                  replace H := Option.bind_eq_some_iff.mp H
                  obtain ⟨⟨t304, t305⟩, A480, H⟩ := H
                  replace H : (if (rd t286 x18_2) < ((rd_T35 t277 x10_1).f1) then (if (decide (t297 ≤ x283000_1)) = true then (if t305 = 0 then (stickfullaw14_FillGreedy.j2 k2 l0 t277 x10_1 t286 t287 (decide (t297 ≤ x283000_1)) x18_2 t304 t305 (decide (t304 > x283000_1)) a2_0 a2_1 x283000_1 x283001_1 ((rd_T35 t277 x10_1).f0) ((rd_T35 t277 x10_1).f1) ((rd_T35 t277 x10_1).f2)) else (stickfullaw14_FillGreedy.j2 k2 l0 t277 x10_1 t286 t287 (decide (t297 ≤ x283000_1)) x18_2 t304 t305 true a2_0 a2_1 x283000_1 x283001_1 ((rd_T35 t277 x10_1).f0) ((rd_T35 t277 x10_1).f1) ((rd_T35 t277 x10_1).f2))) else (stickfullaw14_FillGreedy.j2 k2 l0 t277 x10_1 t286 t287 (decide (t297 ≤ x283000_1)) x18_2 t304 t305 true a2_0 a2_1 x283000_1 x283001_1 ((rd_T35 t277 x10_1).f0) ((rd_T35 t277 x10_1).f1) ((rd_T35 t277 x10_1).f2))) else (stickfullaw14_FillGreedy.j2 k2 l0 t277 x10_1 t286 t287 (decide (t297 ≤ x283000_1)) x18_2 t304 t305 false a2_0 a2_1 x283000_1 x283001_1 ((rd_T35 t277 x10_1).f0) ((rd_T35 t277 x10_1).f1) ((rd_T35 t277 x10_1).f2))) = some r := H
                  have A48 := Aside0.mk A480
                  clear A480
                  have HC49 := Aside0.mk H
                  clear H
                  obtain ⟨Ao50, co50, eo50⟩ := Kd.R_slice HO_12.out
                  subst eo50
                  try go_wp2
                  replace HO_7 := Aside0.mk (Kd.R_drew HO_7.out)
                  replace HO_12 := Aside0.mk (Kd.R_drew HO_12.out)
                  replace HO_13 := Aside0.mk (Kd.R_drew HO_13.out)
                  replace BK274 := Aside0.mk (blk_drew BK274.out)
                  replace BK275 := Aside0.mk (blk_drew BK275.out)
                  replace BK282 := Aside0.mk (blk_drew BK282.out)
                  replace BK285 := Aside0.mk (blk_drew BK285.out)
                  replace HB := Aside0.mk (below_drew1 HB.out)
                  have p299 : 0 ≤ (x18_2 : Int) := of_decide_eq_true (by first | (with_reducible assumption) | assumption)
                  have q299 : x18_2 < (t286.length : Int) := of_decide_eq_true (by first | (with_reducible assumption) | assumption)
                  obtain ⟨ad299, e299, hx299_0⟩ := Kd.at_int (Kd.R_reads' HO_12.out).2.2 x18_2 p299 q299
                  cases e299
                  replace p299 := eq_true p299
                  replace q299 := eq_true q299
                  have q52 : ((rd t286 x18_2) : Int) ≤ ((l0.length : Int) : Int) := of_decide_eq_true (by first | (with_reducible assumption) | assumption)
                  obtain ⟨i052, hi052, _, hsz52, _⟩ := info_parts info44
                  have hroom52 : l0.length ≤ c0 := HC0.out
                  have hC52 : Kd.C k44 _ A0 l0.length l0 := HR0.out
                  have ql52 : (((rd_T35 t277 x10_1).f0) : Int) ≤ ((rd t286 x18_2) : Int) := of_decide_eq_true (by first | (with_reducible assumption) | assumption)
                  have q052 : (0 : Int) ≤ (((rd_T35 t277 x10_1).f0) : Int) := of_decide_eq_true (by first | (with_reducible assumption) | assumption)
                  have hcut52 := cut_mid (P := Try.prog) 22 44 .i64 .i64 Try.underlying22 hi052 6 hsz52 A0 l0.length c0 ((rd_T35 t277 x10_1).f0) (rd t286 x18_2) q052 ql52 q52 hroom52
                  have hr52 := Kd.C_mid (lo := (((rd_T35 t277 x10_1).f0) : Int).toNat) (hi := ((rd t286 x18_2) : Int).toNat) (c := c0) hC52 (by omega) (by omega) hroom52
                  obtain ⟨A52, hA52⟩ : ∃ A1, A1 = (if c0 = (((rd_T35 t277 x10_1).f0) : Int).toNat then A0 else (A0 : Option Addr).map (·.add ((((rd_T35 t277 x10_1).f0) : Int).toNat * 6))) := ⟨_, rfl⟩
                  obtain ⟨c52, hc52⟩ : ∃ c1, c1 = c0 - (((rd_T35 t277 x10_1).f0) : Int).toNat := ⟨_, rfl⟩
                  have hy52 : y300.length = ((rd t286 x18_2) : Int).toNat - (((rd_T35 t277 x10_1).f0) : Int).toNat := (by rw [Ny300.out, List.length_drop, List.length_take] <;> omega)
                  rw [show ((l0).take ((rd t286 x18_2) : Int).toNat).drop (((rd_T35 t277 x10_1).f0) : Int).toNat = y300 from Ny300.out.symm] at hr52
                  replace hr52 : Kd.C k44 _ A52 y300.length y300 := (by rw [hA52]; exact hr52)
                  rw [← hy52, ← hA52, ← hc52] at hcut52
                  have HR303 := Aside0.mk hr52
                  have HC303 := Aside0.mk (show y300.length ≤ c52 from by rw [hy52, hc52]; exact Nat.sub_le_sub_right (Nat.le_trans (by omega) hroom52) _)
                  clear hr52 hC52 hroom52 hi052 hsz52 hc52
                  have KY52 := Aside0.mk hy52
                  have KA52 := Aside0.mk hA52
                  clear hy52 hA52
                  replace q52 := eq_true q52
                  refine start_ (n := 16) (S := fun w' => w'.cell? ⟨gb285, 0, none⟩ = some (.int .i64 ((rd_T35 t277 x10_1).f0)) ∧ w'.cell? ⟨gb285, 1, none⟩ = some (.int .i64 ((rd_T35 t277 x10_1).f1)) ∧ w'.cell? ⟨gb285, 2, none⟩ = some (.bool ((rd_T35 t277 x10_1).f2)) ∧ w'.cell? ⟨gb282, 0, none⟩ = some (.int .i64 x283000_1) ∧ w'.cell? ⟨gb282, 1, none⟩ = some (.int .i64 x283001_1) ∧ w'.cell? (ad299.add (x18_2).toNat) = some (.int .i64 (rd t286 x18_2))) (ds := []) (stickfullaw14_FillGreedy.bm 16 0) (by kernel_rfl) rfl rfl ⟨bc BK285 0, bc BK285 1, bc BK285 2, bc BK282 0, bc BK282 1, hx299_0⟩ (fun hHeld => ?_); refine with_tabW stickfullaw14_FillGreedy.tab19 stickfullaw14_FillGreedy.bits19 (fun HT_ HW_ => ?_)
                  generalize wr.drew = w51 at HO_7 HO_12 HO_13 BK274 BK275 BK282 BK285 HB HR303 hx299_0 hHeld ⊢
                  refine pure_ (i := 0) (N := some 80) (v := ?_) (a' := ?_) (stickfullaw14_FillGreedy.bm 16 1) rfl rfl (any_of HT_.out (by kernel_rfl)) (fun _ _ _ h => h) (Or.inl ⟨by rfl, ?_⟩) ?_ ?_
                  rotate_left; (focus intro w'; go_simp; with_reducible rfl); rotate_left; (focus simp only [Act.put, List.setIfInBounds_toArray, List.set_cons_zero, List.set_cons_succ, i64_w, i32_w]; rfl)
                  refine pure_ (i := 1) (N := some 81) (v := ?_) (a' := ?_) (stickfullaw14_FillGreedy.bm 16 3) rfl rfl (any_of HT_.out (by kernel_rfl)) (fun _ _ _ h => h) (Or.inl ⟨by rfl, ?_⟩) ?_ ?_
                  rotate_left; (focus intro w'; go_simp; with_reducible rfl); rotate_left; (focus simp only [Act.put, List.setIfInBounds_toArray, List.set_cons_zero, List.set_cons_succ, i64_w, i32_w]; rfl)
                  refine pure_ (i := 3) (N := some 83) (v := ?_) (a' := ?_) (stickfullaw14_FillGreedy.bm 16 11) rfl rfl (any_of HT_.out (by kernel_rfl)) (fun _ _ _ h => h) (Or.inl ⟨by rfl, ?_⟩) ?_ ?_
                  rotate_left; (focus intro w'; go_simp; with_reducible rfl); rotate_left; (focus simp only [Act.put, List.setIfInBounds_toArray, List.set_cons_zero, List.set_cons_succ, i64_w, i32_w]; rfl)
                  refine pure_ (i := 4) (N := some 84) (v := ?_) (a' := ?_) (stickfullaw14_FillGreedy.bm 16 27) rfl rfl (any_of HT_.out (by kernel_rfl)) (fun _ _ _ h => h) (Or.inl ⟨by rfl, ?_⟩) ?_ ?_
                  rotate_left; (focus intro w'; go_simp; with_reducible rfl); rotate_left; (focus simp only [Act.put, List.setIfInBounds_toArray, List.set_cons_zero, List.set_cons_succ, i64_w, i32_w]; rfl)
                  refine pure_ (i := 5) (N := some 85) (v := ?_) (a' := ?_) (stickfullaw14_FillGreedy.bm 16 59) rfl rfl (any_of HT_.out (by kernel_rfl)) (fun _ _ _ h => h) (Or.inl ⟨by rfl, ?_⟩) ?_ ?_
                  rotate_left; (focus intro w'; go_simp; with_reducible rfl); rotate_left; (focus simp only [Act.put, List.setIfInBounds_toArray, List.set_cons_zero, List.set_cons_succ, i64_w, i32_w]; rfl)
                  refine pure_ (i := 8) (N := some 88) (v := ?_) (a' := ?_) (stickfullaw14_FillGreedy.bm 16 315) rfl rfl (any_of HT_.out (by kernel_rfl)) (fun _ _ _ h => h) (Or.inl ⟨by rfl, ?_⟩) ?_ ?_
                  rotate_left; (focus intro w'; go_simp; with_reducible rfl); rotate_left; (focus simp only [Act.put, List.setIfInBounds_toArray, List.set_cons_zero, List.set_cons_succ, i64_w, i32_w]; rfl)
                  refine take_ (i := 2) (N := some 82) (v := ?_) (a' := ?_) (stickfullaw14_FillGreedy.bm 16 319) rfl rfl (take_ofW HT_.out HW_.out (by kernel_rfl)) (fun _ _ _ h => h) (Or.inl ⟨by rfl, ?_⟩) hHeld ?_ ?_
                  rotate_left; (focus rintro w' ⟨s0, s1, s2, s3, s4, s5⟩; go_simp; with_reducible rfl); rotate_left; (focus simp only [Act.put, List.setIfInBounds_toArray, List.set_cons_zero, List.set_cons_succ, i64_w, i32_w]; rfl)
                  refine take_ (i := 6) (N := some 86) (v := ?_) (a' := ?_) (stickfullaw14_FillGreedy.bm 16 383) rfl rfl (take_ofW HT_.out HW_.out (by kernel_rfl)) (fun _ _ _ h => h) (Or.inl ⟨by rfl, ?_⟩) hHeld ?_ ?_
                  rotate_left; (focus rintro w' ⟨s0, s1, s2, s3, s4, s5⟩; go_simp; with_reducible rfl); rotate_left; (focus simp only [Act.put, List.setIfInBounds_toArray, List.set_cons_zero, List.set_cons_succ, i64_w, i32_w]; rfl)
                  refine pure_ (i := 7) (N := some 87) (v := ?_) (a' := ?_) (stickfullaw14_FillGreedy.bm 16 511) rfl rfl (any_of HT_.out (by kernel_rfl)) (fun _ _ _ h => h) (Or.inl ⟨by rfl, ?_⟩) ?_ ?_
                  rotate_left; (focus intro w'; go_simp; with_reducible rfl); rotate_left; (focus simp only [Act.put, List.setIfInBounds_toArray, List.set_cons_zero, List.set_cons_succ, i64_w, i32_w]; rfl)
                  refine take_ (i := 9) (N := some 89) (v := ?_) (a' := ?_) (stickfullaw14_FillGreedy.bm 16 1023) rfl rfl (take_ofW HT_.out HW_.out (by kernel_rfl)) (fun _ _ _ h => h) (Or.inl ⟨by rfl, ?_⟩) hHeld ?_ ?_
                  rotate_left; (focus rintro w' ⟨s0, s1, s2, s3, s4, s5⟩; go_simp; with_reducible rfl); rotate_left; (focus simp only [Act.put, List.setIfInBounds_toArray, List.set_cons_zero, List.set_cons_succ, i64_w, i32_w]; rfl)
                  refine one_ (i := 10) (N := some 90) (stickfullaw14_FillGreedy.bm 16 2047) rfl rfl (one_of HT_.out (by kernel_rfl)) (by decide) (fun K hK => ?_)
                  refine goes_ Try.func15 (by kernel_rfl) rfl #[.slice A52 y300.length c52, .int .i64 x283001_1] (by rfl) rfl rfl (by (try simp only [List.map_toArray, List.map_cons, List.map_nil]); first | done | rfl | (simp only [List.length_drop, List.length_take]; rfl)) ?_
                  with_reducible refine (trim_Fits.calls _ _ y300 x283001_1 t304 t305 _ ?side1 ?side2 A48.out).mono ?_
                  (case side1 => repeat (first | exact (Kd.C_below HR303.out HB.out) | (with_reducible refine Kd.C_alloc ?_ _) | (with_reducible refine Kd.C_drewN ?_ _) | (with_reducible refine Kd.C_drew ?_)))
                  (case side2 => exact HC303.out)
                  rintro e w53 ⟨rfl, hb⟩
                  have HS5_ := (hb.cell (World.block_lt_of_cell? _ _ (hHeld.2.2.2.2.2))).trans (hHeld.2.2.2.2.2)
                  refine ⟨_, rfl, ?_⟩
                  replace HO_7 := Aside0.mk (Kd.R_below (rx HO_7) hb)
                  replace HO_12 := Aside0.mk (Kd.R_below (rx HO_12) hb)
                  replace HO_13 := Aside0.mk (Kd.R_below (rx HO_13) hb)
                  replace BK274 := bb BK274 hb
                  replace BK275 := bb BK275 hb
                  replace BK282 := bb BK282 hb
                  replace BK285 := bb BK285 hb
                  replace HB := bh HB hb
                  (try clear hb)
                  (try clear hb2)
                  (try clear hk)
                  (try clear hi)
                  refine hK.out _ _ ⟨bc BK285 0, bc BK285 1, bc BK285 2, bc BK282 0, bc BK282 1, HS5_⟩ (fun hHeld => ?_)
                  clear hK K
                  refine norm_ (a' := ?_) ?_ ?_
                  rotate_left; (focus show Act.put _ (some 90) _ = _; simp only [Act.put, List.setIfInBounds_toArray, List.set_cons_zero, List.set_cons_succ, i64_w, i32_w]; rfl)
                  refine pure_ (i := 11) (N := some 79) (v := ?_) (a' := ?_) (stickfullaw14_FillGreedy.bm 16 4095) rfl rfl (any_of HT_.out (by kernel_rfl)) (fun _ _ _ h => h) (Or.inl ⟨by rfl, ?_⟩) ?_ ?_
                  rotate_left; (focus intro w'; go_simp; with_reducible rfl); rotate_left; (focus simp only [Act.put, List.setIfInBounds_toArray, List.set_cons_zero, List.set_cons_succ, i64_w, i32_w]; rfl)
                  refine pure_ (i := 12) (N := some 91) (v := ?_) (a' := ?_) (stickfullaw14_FillGreedy.bm 16 8191) rfl rfl (any_of HT_.out (by kernel_rfl)) (fun _ _ _ h => h) (Or.inl ⟨by rfl, ?_⟩) ?_ ?_
                  rotate_left; (focus intro w'; go_simp; with_reducible rfl); rotate_left; (focus simp only [Act.put, List.setIfInBounds_toArray, List.set_cons_zero, List.set_cons_succ, i64_w, i32_w]; rfl)
                  refine pure_ (i := 13) (N := some 92) (v := ?_) (a' := ?_) (stickfullaw14_FillGreedy.bm 16 16383) rfl rfl (any_of HT_.out (by kernel_rfl)) (fun _ _ _ h => h) (Or.inl ⟨by rfl, ?_⟩) ?_ ?_
                  rotate_left; (focus intro w'; go_simp; with_reducible rfl); rotate_left; (focus simp only [Act.put, List.setIfInBounds_toArray, List.set_cons_zero, List.set_cons_succ, i64_w, i32_w]; rfl)
                  refine pure_ (i := 14) (N := some 19) (v := ?_) (a' := ?_) (stickfullaw14_FillGreedy.bm 16 32767) rfl rfl (any_of HT_.out (by kernel_rfl)) (fun _ _ _ h => h) (Or.inl ⟨by rfl, ?_⟩) ?_ ?_
                  rotate_left; (focus intro w'; go_simp; with_reducible rfl); rotate_left; (focus simp only [Act.put, List.setIfInBounds_toArray, List.set_cons_zero, List.set_cons_succ, i64_w, i32_w]; rfl)
                  refine pure_ (i := 15) (N := some 20) (v := ?_) (a' := ?_) (stickfullaw14_FillGreedy.bm 16 65535) rfl rfl (any_of HT_.out (by kernel_rfl)) (fun _ _ _ h => h) (Or.inl ⟨by rfl, ?_⟩) ?_ ?_
                  rotate_left; (focus intro w'; go_simp; with_reducible rfl); rotate_left; (focus simp only [Act.put, List.setIfInBounds_toArray, List.set_cons_zero, List.set_cons_succ, i64_w, i32_w]; rfl)
                  refine done_ (done_of HT_.out (by kernel_rfl)) ?_
                  go_upto_region 20 with (fail)
                  go_cut [113] (fun v113 wc => ∃ (kq : Nat) (x113_48 : Bool), v113 = .bool x113_48 ∧ Aside0 (stickfullaw14_FillGreedy.j2 kq l0 t277 x10_1 t286 t287 (decide (t297 ≤ x283000_1)) x18_2 t304 t305 x113_48 a2_0 a2_1 x283000_1 x283001_1 ((rd_T35 t277 x10_1).f0) ((rd_T35 t277 x10_1).f1) ((rd_T35 t277 x10_1).f2) = some r) ∧ Aside0 (kq ≤ k2) ∧ Aside0 (Kd.R k35 35 wc w.heap.size (fun k_ => k_ ≠ gb285) (.slice (some ad284) t277.length co30) t277) ∧ Aside0 (Kd.R (Kd.int .i64) 3 wc w.heap.size (fun k_ => some k_ ≠ (v291 : Value).ownBlock) (.slice (some ad299) t286.length co50) t286) ∧ Aside0 (Kd.R (Kd.int .i64) 3 wc w.heap.size (fun k_ => some k_ ≠ ((.slice (some ad299) t286.length co50) : Value).ownBlock) v291 t287) ∧ Aside0 (wc.heap[gb274]? = some (.cells #[.int .i64 a1_0, .int .i64 a1_1] 24 (0, 0))) ∧ Aside0 (wc.heap[gb275]? = some (.cells #[.int .i64 a2_0, .int .i64 a2_1] 24 (0, 0))) ∧ Aside0 (wc.heap[gb282]? = some (.cells #[.int .i64 x283000_1, .int .i64 x283001_1] 24 (0, 0))) ∧ Aside0 (wc.heap[gb285]? = some (.cells #[.int .i64 ((rd_T35 t277 x10_1).f0), .int .i64 ((rd_T35 t277 x10_1).f1), .bool ((rd_T35 t277 x10_1).f2)] 35 (0, 0))) ∧ Aside0 (Below w.heap.size w wc))
                  case first =>
                   have H := HC49.out
                   clear HC49
                   by_cases c54 : (rd t286 x18_2) < ((rd_T35 t277 x10_1).f1)
                   ·rw [if_pos c54] at H
                    have c54b0 : decide ((rd t286 x18_2) < ((rd_T35 t277 x10_1).f1)) = true := decide_eq_true c54
                    clear c54
                    (first | rw [c54b0] | (simp only [i64_w, i32_w]; rw [c54b0]) | skip)
                    by_cases c55 : (decide (t297 ≤ x283000_1)) = true
                    ·rw [if_pos c55] at H
                     have c55b0 : (decide (t297 ≤ x283000_1)) = true := c55
                     clear c55
                     by_cases c56 : t305 = 0
                     ·rw [if_pos c56] at H
                      have c56b0 : (t305 == 0) = true := beq_iff_eq.mpr c56
                      have c56b1 : (t305 != 0) = false := bne_eq_false_iff_eq.mpr c56
                      clear c56
                      have H' := Aside0.mk H
                      clear H
                      try go_wp2
                      replace HO_7 := Aside0.mk (Kd.R_drew HO_7.out)
                      replace HO_12 := Aside0.mk (Kd.R_drew HO_12.out)
                      replace HO_13 := Aside0.mk (Kd.R_drew HO_13.out)
                      replace BK274 := Aside0.mk (blk_drew BK274.out)
                      replace BK275 := Aside0.mk (blk_drew BK275.out)
                      replace BK282 := Aside0.mk (blk_drew BK282.out)
                      replace BK285 := Aside0.mk (blk_drew BK285.out)
                      replace HB := Aside0.mk (below_drew1 HB.out)
                      have p306 : 0 ≤ (x18_2 : Int) := of_decide_eq_true (by first | (with_reducible assumption) | assumption)
                      have q306 : x18_2 < (t286.length : Int) := of_decide_eq_true (by first | (with_reducible assumption) | assumption)
                      obtain ⟨ad306, e306, hx306_0⟩ := Kd.at_int (Kd.R_reads' HO_12.out).2.2 x18_2 p306 q306
                      obtain rfl : ad299 = ad306 := (by injection e306)
                      replace p306 := eq_true p306
                      replace q306 := eq_true q306
                      refine start_ (n := 21) (S := fun w' => w'.cell? ⟨gb285, 0, none⟩ = some (.int .i64 ((rd_T35 t277 x10_1).f0)) ∧ w'.cell? ⟨gb285, 1, none⟩ = some (.int .i64 ((rd_T35 t277 x10_1).f1)) ∧ w'.cell? ⟨gb285, 2, none⟩ = some (.bool ((rd_T35 t277 x10_1).f2)) ∧ w'.cell? ⟨gb282, 0, none⟩ = some (.int .i64 x283000_1) ∧ w'.cell? ⟨gb282, 1, none⟩ = some (.int .i64 x283001_1) ∧ w'.cell? (ad299.add (x18_2).toNat) = some (.int .i64 (rd t286 x18_2))) (ds := []) (stickfullaw14_FillGreedy.bm 21 0) (by kernel_rfl) rfl rfl ⟨bc BK285 0, bc BK285 1, bc BK285 2, bc BK282 0, bc BK282 1, hx306_0⟩ (fun hHeld => ?_); refine with_tabW stickfullaw14_FillGreedy.tab20 stickfullaw14_FillGreedy.bits20 (fun HT_ HW_ => ?_)
                      generalize w53.drew = w57 at HO_7 HO_12 HO_13 BK274 BK275 BK282 BK285 HB hx306_0 hHeld ⊢
                      refine pure_ (i := 0) (N := some 93) (v := ?_) (a' := ?_) (stickfullaw14_FillGreedy.bm 21 1) rfl rfl (any_of HT_.out (by kernel_rfl)) (fun _ _ _ h => h) (Or.inl ⟨by rfl, ?_⟩) ?_ ?_
                      rotate_left; (focus intro w'; go_simp; with_reducible rfl); rotate_left; (focus simp only [Act.put, List.setIfInBounds_toArray, List.set_cons_zero, List.set_cons_succ, i64_w, i32_w]; rfl)
                      refine pure_ (i := 1) (N := some 94) (v := ?_) (a' := ?_) (stickfullaw14_FillGreedy.bm 21 3) rfl rfl (any_of HT_.out (by kernel_rfl)) (fun _ _ _ h => h) (Or.inl ⟨by rfl, ?_⟩) ?_ ?_
                      rotate_left; (focus intro w'; go_simp; with_reducible rfl); rotate_left; (focus simp only [Act.put, List.setIfInBounds_toArray, List.set_cons_zero, List.set_cons_succ, i64_w, i32_w]; rfl)
                      refine pure_ (i := 2) (N := some 95) (v := ?_) (a' := ?_) (stickfullaw14_FillGreedy.bm 21 7) rfl rfl (any_of HT_.out (by kernel_rfl)) (fun _ _ _ h => h) (Or.inl ⟨by rfl, ?_⟩) ?_ ?_
                      rotate_left; (focus intro w'; go_simp; with_reducible rfl); rotate_left; (focus simp only [Act.put, List.setIfInBounds_toArray, List.set_cons_zero, List.set_cons_succ, i64_w, i32_w]; rfl)
                      refine pure_ (i := 4) (N := some 97) (v := ?_) (a' := ?_) (stickfullaw14_FillGreedy.bm 21 23) rfl rfl (any_of HT_.out (by kernel_rfl)) (fun _ _ _ h => h) (Or.inl ⟨by rfl, ?_⟩) ?_ ?_
                      rotate_left; (focus intro w'; go_simp; with_reducible rfl); rotate_left; (focus simp only [Act.put, List.setIfInBounds_toArray, List.set_cons_zero, List.set_cons_succ, i64_w, i32_w]; rfl)
                      refine take_ (i := 3) (N := some 96) (v := ?_) (a' := ?_) (stickfullaw14_FillGreedy.bm 21 31) rfl rfl (take_ofW HT_.out HW_.out (by kernel_rfl)) (fun _ _ _ h => h) (Or.inl ⟨by rfl, ?_⟩) hHeld ?_ ?_
                      rotate_left; (focus rintro w' ⟨s0, s1, s2, s3, s4, s5⟩; go_simp; with_reducible rfl); rotate_left; (focus simp only [Act.put, List.setIfInBounds_toArray, List.set_cons_zero, List.set_cons_succ, i64_w, i32_w]; rfl)
                      refine take_ (i := 5) (N := some 98) (v := ?_) (a' := ?_) (stickfullaw14_FillGreedy.bm 21 63) rfl rfl (take_ofW HT_.out HW_.out (by kernel_rfl)) (fun _ _ _ h => h) (Or.inl ⟨by rfl, ?_⟩) hHeld ?_ ?_
                      rotate_left; (focus rintro w' ⟨s0, s1, s2, s3, s4, s5⟩; go_simp; with_reducible rfl); rotate_left; (focus simp only [Act.put, List.setIfInBounds_toArray, List.set_cons_zero, List.set_cons_succ, i64_w, i32_w]; rfl)
                      refine pure_ (i := 6) (N := some 99) (v := ?_) (a' := ?_) (stickfullaw14_FillGreedy.bm 21 127) rfl rfl (any_of HT_.out (by kernel_rfl)) (fun _ _ _ h => h) (Or.inl ⟨by rfl, ?_⟩) ?_ ?_
                      rotate_left; (focus intro w'; go_simp; with_reducible rfl); rotate_left; (focus simp only [Act.put, List.setIfInBounds_toArray, List.set_cons_zero, List.set_cons_succ, i64_w, i32_w]; rfl)
                      refine pure_ (i := 7) (N := some 100) (v := ?_) (a' := ?_) (stickfullaw14_FillGreedy.bm 21 255) rfl rfl (any_of HT_.out (by kernel_rfl)) (fun _ _ _ h => h) (Or.inl ⟨by rfl, ?_⟩) ?_ ?_
                      rotate_left; (focus intro w'; go_simp; with_reducible rfl); rotate_left; (focus simp only [Act.put, List.setIfInBounds_toArray, List.set_cons_zero, List.set_cons_succ, i64_w, i32_w]; rfl)
                      refine pure_ (i := 8) (N := some 101) (v := ?_) (a' := ?_) (stickfullaw14_FillGreedy.bm 21 511) rfl rfl (any_of HT_.out (by kernel_rfl)) (fun _ _ _ h => h) (Or.inl ⟨by rfl, ?_⟩) ?_ ?_
                      rotate_left; (focus intro w'; go_simp; with_reducible rfl); rotate_left; (focus simp only [Act.put, List.setIfInBounds_toArray, List.set_cons_zero, List.set_cons_succ, i64_w, i32_w]; rfl)
                      refine pure_ (i := 9) (N := some 102) (v := ?_) (a' := ?_) (stickfullaw14_FillGreedy.bm 21 1023) rfl rfl (any_of HT_.out (by kernel_rfl)) (fun _ _ _ h => h) (Or.inl ⟨by rfl, ?_⟩) ?_ ?_
                      rotate_left; (focus intro w'; go_simp; with_reducible rfl); rotate_left; (focus simp only [Act.put, List.setIfInBounds_toArray, List.set_cons_zero, List.set_cons_succ, i64_w, i32_w]; rfl)
                      refine pure_ (i := 10) (N := some 103) (v := ?_) (a' := ?_) (stickfullaw14_FillGreedy.bm 21 2047) rfl rfl (any_of HT_.out (by kernel_rfl)) (fun _ _ _ h => h) (Or.inl ⟨by rfl, ?_⟩) ?_ ?_
                      rotate_left; (focus intro w'; go_simp; with_reducible rfl); rotate_left; (focus simp only [Act.put, List.setIfInBounds_toArray, List.set_cons_zero, List.set_cons_succ, i64_w, i32_w]; rfl)
                      refine pure_ (i := 11) (N := some 104) (v := ?_) (a' := ?_) (stickfullaw14_FillGreedy.bm 21 4095) rfl rfl (any_of HT_.out (by kernel_rfl)) (fun _ _ _ h => h) (Or.inl ⟨by rfl, ?_⟩) ?_ ?_
                      rotate_left; (focus intro w'; go_simp; with_reducible rfl); rotate_left; (focus simp only [Act.put, List.setIfInBounds_toArray, List.set_cons_zero, List.set_cons_succ, i64_w, i32_w]; rfl)
                      refine pure_ (i := 12) (N := some 105) (v := ?_) (a' := ?_) (stickfullaw14_FillGreedy.bm 21 8191) rfl rfl (any_of HT_.out (by kernel_rfl)) (fun _ _ _ h => h) (Or.inl ⟨by rfl, ?_⟩) ?_ ?_
                      rotate_left; (focus intro w'; go_simp; with_reducible rfl); rotate_left; (focus simp only [Act.put, List.setIfInBounds_toArray, List.set_cons_zero, List.set_cons_succ, i64_w, i32_w]; rfl)
                      refine pure_ (i := 13) (N := some 106) (v := ?_) (a' := ?_) (stickfullaw14_FillGreedy.bm 21 16383) rfl rfl (any_of HT_.out (by kernel_rfl)) (fun _ _ _ h => h) (Or.inl ⟨by rfl, ?_⟩) ?_ ?_
                      rotate_left; (focus intro w'; go_simp; with_reducible rfl); rotate_left; (focus simp only [Act.put, List.setIfInBounds_toArray, List.set_cons_zero, List.set_cons_succ, i64_w, i32_w]; rfl)
                      refine pure_ (i := 14) (N := some 107) (v := ?_) (a' := ?_) (stickfullaw14_FillGreedy.bm 21 32767) rfl rfl (any_of HT_.out (by kernel_rfl)) (fun _ _ _ h => h) (Or.inl ⟨by rfl, ?_⟩) ?_ ?_
                      rotate_left; (focus intro w'; go_simp; with_reducible rfl); rotate_left; (focus simp only [Act.put, List.setIfInBounds_toArray, List.set_cons_zero, List.set_cons_succ, i64_w, i32_w]; rfl)
                      refine pure_ (i := 15) (N := some 108) (v := ?_) (a' := ?_) (stickfullaw14_FillGreedy.bm 21 65535) rfl rfl (any_of HT_.out (by kernel_rfl)) (fun _ _ _ h => h) (Or.inl ⟨by rfl, ?_⟩) ?_ ?_
                      rotate_left; (focus intro w'; go_simp; with_reducible rfl); rotate_left; (focus simp only [Act.put, List.setIfInBounds_toArray, List.set_cons_zero, List.set_cons_succ, i64_w, i32_w]; rfl)
                      refine pure_ (i := 16) (N := some 109) (v := ?_) (a' := ?_) (stickfullaw14_FillGreedy.bm 21 131071) rfl rfl (any_of HT_.out (by kernel_rfl)) (fun _ _ _ h => h) (Or.inl ⟨by rfl, ?_⟩) ?_ ?_
                      rotate_left; (focus intro w'; go_simp; with_reducible rfl); rotate_left; (focus simp only [Act.put, List.setIfInBounds_toArray, List.set_cons_zero, List.set_cons_succ, i64_w, i32_w]; rfl)
                      refine take_ (i := 17) (N := some 110) (v := ?_) (a' := ?_) (stickfullaw14_FillGreedy.bm 21 262143) rfl rfl (take_ofW HT_.out HW_.out (by kernel_rfl)) (fun _ _ _ h => h) (Or.inl ⟨by rfl, ?_⟩) hHeld ?_ ?_
                      rotate_left; (focus rintro w' ⟨s0, s1, s2, s3, s4, s5⟩; go_simp; with_reducible rfl); rotate_left; (focus simp only [Act.put, List.setIfInBounds_toArray, List.set_cons_zero, List.set_cons_succ, i64_w, i32_w]; rfl)
                      refine pure_ (i := 18) (N := some 111) (v := ?_) (a' := ?_) (stickfullaw14_FillGreedy.bm 21 524287) rfl rfl (any_of HT_.out (by kernel_rfl)) (fun _ _ _ h => h) (Or.inl ⟨by rfl, ?_⟩) ?_ ?_
                      rotate_left; (focus intro w'; go_simp; with_reducible rfl); rotate_left; (focus simp only [Act.put, List.setIfInBounds_toArray, List.set_cons_zero, List.set_cons_succ, i64_w, i32_w]; rfl)
                      refine pure_ (i := 19) (N := some 112) (v := ?_) (a' := ?_) (stickfullaw14_FillGreedy.bm 21 1048575) rfl rfl (any_of HT_.out (by kernel_rfl)) (fun _ _ _ h => h) (Or.inl ⟨by rfl, ?_⟩) ?_ ?_
                      rotate_left; (focus intro w'; go_simp; with_reducible rfl); rotate_left; (focus simp only [Act.put, List.setIfInBounds_toArray, List.set_cons_zero, List.set_cons_succ, i64_w, i32_w]; rfl)
                      refine pure_ (i := 20) (N := some 113) (v := ?_) (a' := ?_) (stickfullaw14_FillGreedy.bm 21 2097151) rfl rfl (any_of HT_.out (by kernel_rfl)) (fun _ _ _ h => h) (Or.inl ⟨by rfl, ?_⟩) ?_ ?_
                      rotate_left; (focus intro w'; go_simp; with_reducible rfl); rotate_left; (focus simp only [Act.put, List.setIfInBounds_toArray, List.set_cons_zero, List.set_cons_succ, i64_w, i32_w]; rfl)
                      refine done_ (done_of HT_.out (by kernel_rfl)) ?_
                      try go_wp2
                      refine Met.intro ?_; go_step; (repeat apply Exists.intro); refine ⟨?rel, ?eq_⟩
                      case eq_ => first | rfl | rw [c55b0] | simp only [c55b0]
                      case rel => exact ⟨_, (decide (t304 > x283000_1)), (by first | rfl | (simp; done) | (simp [*]; done)), H', ⟨by have := HK1.out; have := HK2.out; first | omega | exact Nat.le_refl _⟩, ⟨by (with_reducible repeat (first | apply Kd.R_alloc | apply Kd.R_drewN | apply Kd.R_drew)); exact HO_7.out⟩, ⟨by (with_reducible repeat (first | apply Kd.R_alloc | apply Kd.R_drewN | apply Kd.R_drew)); exact HO_12.out⟩, ⟨by (with_reducible repeat (first | apply Kd.R_alloc | apply Kd.R_drewN | apply Kd.R_drew)); exact HO_13.out⟩, ⟨by (with_reducible repeat (first | refine blk_drewN ?_ _ | refine blk_drew ?_ | refine blk_alloc ?_ _)); exact BK274.out⟩, ⟨by (with_reducible repeat (first | refine blk_drewN ?_ _ | refine blk_drew ?_ | refine blk_alloc ?_ _)); exact BK275.out⟩, ⟨by (with_reducible repeat (first | refine blk_drewN ?_ _ | refine blk_drew ?_ | refine blk_alloc ?_ _)); exact BK282.out⟩, ⟨by (with_reducible repeat (first | refine blk_drewN ?_ _ | refine blk_drew ?_ | refine blk_alloc ?_ _)); exact BK285.out⟩, ⟨by repeat (first | (with_reducible first | exact HB.out | apply below_alloc | apply pw_below_drewN | apply below_drew1 | refine below_set ?_ GE274.out | refine below_set ?_ GE275.out | refine below_set ?_ GE282.out | refine below_set ?_ GE285.out) | exact HB.out)⟩⟩
                     ·rw [if_neg c56] at H
                      have c56b0 : (t305 == 0) = false := beq_eq_false_iff_ne.mpr c56
                      have c56b1 : (t305 != 0) = true := bne_iff_ne.mpr c56
                      have H' := Aside0.mk H
                      clear H
                      try go_wp2
                      replace HO_7 := Aside0.mk (Kd.R_drew HO_7.out)
                      replace HO_12 := Aside0.mk (Kd.R_drew HO_12.out)
                      replace HO_13 := Aside0.mk (Kd.R_drew HO_13.out)
                      replace BK274 := Aside0.mk (blk_drew BK274.out)
                      replace BK275 := Aside0.mk (blk_drew BK275.out)
                      replace BK282 := Aside0.mk (blk_drew BK282.out)
                      replace BK285 := Aside0.mk (blk_drew BK285.out)
                      replace HB := Aside0.mk (below_drew1 HB.out)
                      have p306 : 0 ≤ (x18_2 : Int) := of_decide_eq_true (by first | (with_reducible assumption) | assumption)
                      have q306 : x18_2 < (t286.length : Int) := of_decide_eq_true (by first | (with_reducible assumption) | assumption)
                      obtain ⟨ad306, e306, hx306_0⟩ := Kd.at_int (Kd.R_reads' HO_12.out).2.2 x18_2 p306 q306
                      obtain rfl : ad299 = ad306 := (by injection e306)
                      replace p306 := eq_true p306
                      replace q306 := eq_true q306
                      refine start_ (n := 21) (S := fun w' => w'.cell? ⟨gb285, 0, none⟩ = some (.int .i64 ((rd_T35 t277 x10_1).f0)) ∧ w'.cell? ⟨gb285, 1, none⟩ = some (.int .i64 ((rd_T35 t277 x10_1).f1)) ∧ w'.cell? ⟨gb285, 2, none⟩ = some (.bool ((rd_T35 t277 x10_1).f2)) ∧ w'.cell? (ad299.add (x18_2).toNat) = some (.int .i64 (rd t286 x18_2))) (ds := []) (stickfullaw14_FillGreedy.bm 21 0) (by kernel_rfl) rfl rfl ⟨bc BK285 0, bc BK285 1, bc BK285 2, hx306_0⟩ (fun hHeld => ?_); refine with_tabW stickfullaw14_FillGreedy.tab20 stickfullaw14_FillGreedy.bits20 (fun HT_ HW_ => ?_)
                      generalize w53.drew = w58 at HO_7 HO_12 HO_13 BK274 BK275 BK282 BK285 HB hx306_0 hHeld ⊢
                      refine pure_ (i := 0) (N := some 93) (v := ?_) (a' := ?_) (stickfullaw14_FillGreedy.bm 21 1) rfl rfl (any_of HT_.out (by kernel_rfl)) (fun _ _ _ h => h) (Or.inl ⟨by rfl, ?_⟩) ?_ ?_
                      rotate_left; (focus intro w'; go_simp; with_reducible rfl); rotate_left; (focus simp only [Act.put, List.setIfInBounds_toArray, List.set_cons_zero, List.set_cons_succ, i64_w, i32_w]; rfl)
                      refine pure_ (i := 1) (N := some 94) (v := ?_) (a' := ?_) (stickfullaw14_FillGreedy.bm 21 3) rfl rfl (any_of HT_.out (by kernel_rfl)) (fun _ _ _ h => h) (Or.inl ⟨by rfl, ?_⟩) ?_ ?_
                      rotate_left; (focus intro w'; go_simp; with_reducible rfl); rotate_left; (focus simp only [Act.put, List.setIfInBounds_toArray, List.set_cons_zero, List.set_cons_succ, i64_w, i32_w]; rfl)
                      refine pure_ (i := 2) (N := some 95) (v := ?_) (a' := ?_) (stickfullaw14_FillGreedy.bm 21 7) rfl rfl (any_of HT_.out (by kernel_rfl)) (fun _ _ _ h => h) (Or.inl ⟨by rfl, ?_⟩) ?_ ?_
                      rotate_left; (focus intro w'; go_simp; with_reducible rfl); rotate_left; (focus simp only [Act.put, List.setIfInBounds_toArray, List.set_cons_zero, List.set_cons_succ, i64_w, i32_w]; rfl)
                      refine pure_ (i := 4) (N := some 97) (v := ?_) (a' := ?_) (stickfullaw14_FillGreedy.bm 21 23) rfl rfl (any_of HT_.out (by kernel_rfl)) (fun _ _ _ h => h) (Or.inl ⟨by rfl, ?_⟩) ?_ ?_
                      rotate_left; (focus intro w'; go_simp; with_reducible rfl); rotate_left; (focus simp only [Act.put, List.setIfInBounds_toArray, List.set_cons_zero, List.set_cons_succ, i64_w, i32_w]; rfl)
                      refine take_ (i := 3) (N := some 96) (v := ?_) (a' := ?_) (stickfullaw14_FillGreedy.bm 21 31) rfl rfl (take_ofW HT_.out HW_.out (by kernel_rfl)) (fun _ _ _ h => h) (Or.inl ⟨by rfl, ?_⟩) hHeld ?_ ?_
                      rotate_left; (focus rintro w' ⟨s0, s1, s2, s3⟩; go_simp; with_reducible rfl); rotate_left; (focus simp only [Act.put, List.setIfInBounds_toArray, List.set_cons_zero, List.set_cons_succ, i64_w, i32_w]; rfl)
                      refine take_ (i := 5) (N := some 98) (v := ?_) (a' := ?_) (stickfullaw14_FillGreedy.bm 21 63) rfl rfl (take_ofW HT_.out HW_.out (by kernel_rfl)) (fun _ _ _ h => h) (Or.inl ⟨by rfl, ?_⟩) hHeld ?_ ?_
                      rotate_left; (focus rintro w' ⟨s0, s1, s2, s3⟩; go_simp; with_reducible rfl); rotate_left; (focus simp only [Act.put, List.setIfInBounds_toArray, List.set_cons_zero, List.set_cons_succ, i64_w, i32_w]; rfl)
                      refine pure_ (i := 6) (N := some 99) (v := ?_) (a' := ?_) (stickfullaw14_FillGreedy.bm 21 127) rfl rfl (any_of HT_.out (by kernel_rfl)) (fun _ _ _ h => h) (Or.inl ⟨by rfl, ?_⟩) ?_ ?_
                      rotate_left; (focus intro w'; go_simp; with_reducible rfl); rotate_left; (focus simp only [Act.put, List.setIfInBounds_toArray, List.set_cons_zero, List.set_cons_succ, i64_w, i32_w]; rfl)
                      refine pure_ (i := 7) (N := some 100) (v := ?_) (a' := ?_) (stickfullaw14_FillGreedy.bm 21 255) rfl rfl (any_of HT_.out (by kernel_rfl)) (fun _ _ _ h => h) (Or.inl ⟨by rfl, ?_⟩) ?_ ?_
                      rotate_left; (focus intro w'; go_simp; with_reducible rfl); rotate_left; (focus simp only [Act.put, List.setIfInBounds_toArray, List.set_cons_zero, List.set_cons_succ, i64_w, i32_w]; rfl)
                      refine pure_ (i := 8) (N := some 101) (v := ?_) (a' := ?_) (stickfullaw14_FillGreedy.bm 21 511) rfl rfl (any_of HT_.out (by kernel_rfl)) (fun _ _ _ h => h) (Or.inl ⟨by rfl, ?_⟩) ?_ ?_
                      rotate_left; (focus intro w'; go_simp; with_reducible rfl); rotate_left; (focus simp only [Act.put, List.setIfInBounds_toArray, List.set_cons_zero, List.set_cons_succ, i64_w, i32_w]; rfl)
                      refine pure_ (i := 9) (N := some 102) (v := ?_) (a' := ?_) (stickfullaw14_FillGreedy.bm 21 1023) rfl rfl (any_of HT_.out (by kernel_rfl)) (fun _ _ _ h => h) (Or.inl ⟨by rfl, ?_⟩) ?_ ?_
                      rotate_left; (focus intro w'; go_simp; with_reducible rfl); rotate_left; (focus simp only [Act.put, List.setIfInBounds_toArray, List.set_cons_zero, List.set_cons_succ, i64_w, i32_w]; rfl)
                      refine pure_ (i := 10) (N := some 103) (v := ?_) (a' := ?_) (stickfullaw14_FillGreedy.bm 21 2047) rfl rfl (any_of HT_.out (by kernel_rfl)) (fun _ _ _ h => h) (Or.inl ⟨by rfl, ?_⟩) ?_ ?_
                      rotate_left; (focus intro w'; go_simp; with_reducible rfl); rotate_left; (focus simp only [Act.put, List.setIfInBounds_toArray, List.set_cons_zero, List.set_cons_succ, i64_w, i32_w]; rfl)
                      refine pure_ (i := 11) (N := some 104) (v := ?_) (a' := ?_) (stickfullaw14_FillGreedy.bm 21 4095) rfl rfl (any_of HT_.out (by kernel_rfl)) (fun _ _ _ h => h) (Or.inl ⟨by rfl, ?_⟩) ?_ ?_
                      rotate_left; (focus intro w'; go_simp; with_reducible rfl); rotate_left; (focus simp only [Act.put, List.setIfInBounds_toArray, List.set_cons_zero, List.set_cons_succ, i64_w, i32_w]; rfl)
                      refine pure_ (i := 12) (N := some 105) (v := ?_) (a' := ?_) (stickfullaw14_FillGreedy.bm 21 8191) rfl rfl (any_of HT_.out (by kernel_rfl)) (fun _ _ _ h => h) (Or.inl ⟨by rfl, ?_⟩) ?_ ?_
                      rotate_left; (focus intro w'; go_simp; with_reducible rfl); rotate_left; (focus simp only [Act.put, List.setIfInBounds_toArray, List.set_cons_zero, List.set_cons_succ, i64_w, i32_w]; rfl)
                      refine pure_ (i := 13) (N := some 106) (v := ?_) (a' := ?_) (stickfullaw14_FillGreedy.bm 21 16383) rfl rfl (any_of HT_.out (by kernel_rfl)) (fun _ _ _ h => h) (Or.inl ⟨by rfl, ?_⟩) ?_ ?_
                      rotate_left; (focus intro w'; go_simp; with_reducible rfl); rotate_left; (focus simp only [Act.put, List.setIfInBounds_toArray, List.set_cons_zero, List.set_cons_succ, i64_w, i32_w]; rfl)
                      refine pure_ (i := 14) (N := some 107) (v := ?_) (a' := ?_) (stickfullaw14_FillGreedy.bm 21 32767) rfl rfl (any_of HT_.out (by kernel_rfl)) (fun _ _ _ h => h) (Or.inl ⟨by rfl, ?_⟩) ?_ ?_
                      rotate_left; (focus intro w'; go_simp; with_reducible rfl); rotate_left; (focus simp only [Act.put, List.setIfInBounds_toArray, List.set_cons_zero, List.set_cons_succ, i64_w, i32_w]; rfl)
                      refine pure_ (i := 15) (N := some 108) (v := undef) (a' := ?_) (stickfullaw14_FillGreedy.bm 21 65535) rfl rfl (any_of HT_.out (by kernel_rfl)) (fun _ _ _ h => h) (Or.inr ⟨by rfl, rfl⟩) ?_ ?_
                      rotate_left; (focus simp only [Act.put, List.setIfInBounds_toArray, List.set_cons_zero, List.set_cons_succ, i64_w, i32_w]; rfl)
                      refine pure_ (i := 16) (N := some 109) (v := undef) (a' := ?_) (stickfullaw14_FillGreedy.bm 21 131071) rfl rfl (any_of HT_.out (by kernel_rfl)) (fun _ _ _ h => h) (Or.inr ⟨by rfl, rfl⟩) ?_ ?_
                      rotate_left; (focus simp only [Act.put, List.setIfInBounds_toArray, List.set_cons_zero, List.set_cons_succ, i64_w, i32_w]; rfl)
                      refine pure_ (i := 17) (N := some 110) (v := undef) (a' := ?_) (stickfullaw14_FillGreedy.bm 21 262143) rfl rfl (any_of HT_.out (by kernel_rfl)) (fun _ _ _ h => h) (Or.inr ⟨by rfl, rfl⟩) ?_ ?_
                      rotate_left; (focus simp only [Act.put, List.setIfInBounds_toArray, List.set_cons_zero, List.set_cons_succ, i64_w, i32_w]; rfl)
                      refine pure_ (i := 18) (N := some 111) (v := undef) (a' := ?_) (stickfullaw14_FillGreedy.bm 21 524287) rfl rfl (any_of HT_.out (by kernel_rfl)) (fun _ _ _ h => h) (Or.inr ⟨by rfl, rfl⟩) ?_ ?_
                      rotate_left; (focus simp only [Act.put, List.setIfInBounds_toArray, List.set_cons_zero, List.set_cons_succ, i64_w, i32_w]; rfl)
                      refine pure_ (i := 19) (N := some 112) (v := ?_) (a' := ?_) (stickfullaw14_FillGreedy.bm 21 1048575) rfl rfl (any_of HT_.out (by kernel_rfl)) (fun _ _ _ h => h) (Or.inl ⟨by rfl, ?_⟩) ?_ ?_
                      rotate_left; (focus intro w'; go_simp; with_reducible rfl); rotate_left; (focus simp only [Act.put, List.setIfInBounds_toArray, List.set_cons_zero, List.set_cons_succ, i64_w, i32_w]; rfl)
                      refine pure_ (i := 20) (N := some 113) (v := ?_) (a' := ?_) (stickfullaw14_FillGreedy.bm 21 2097151) rfl rfl (any_of HT_.out (by kernel_rfl)) (fun _ _ _ h => h) (Or.inl ⟨by rfl, ?_⟩) ?_ ?_
                      rotate_left; (focus intro w'; go_simp; with_reducible rfl); rotate_left; (focus simp only [Act.put, List.setIfInBounds_toArray, List.set_cons_zero, List.set_cons_succ, i64_w, i32_w]; rfl)
                      refine done_ (done_of HT_.out (by kernel_rfl)) ?_
                      try go_wp2
                      refine Met.intro ?_; go_step; (repeat apply Exists.intro); refine ⟨?rel, ?eq_⟩
                      case eq_ => first | rfl | rw [c55b0] | simp only [c55b0]
                      case rel => exact ⟨_, (true), (by first | rfl | (simp; done) | (simp [*]; done)), H', ⟨by have := HK1.out; have := HK2.out; first | omega | exact Nat.le_refl _⟩, ⟨by (with_reducible repeat (first | apply Kd.R_alloc | apply Kd.R_drewN | apply Kd.R_drew)); exact HO_7.out⟩, ⟨by (with_reducible repeat (first | apply Kd.R_alloc | apply Kd.R_drewN | apply Kd.R_drew)); exact HO_12.out⟩, ⟨by (with_reducible repeat (first | apply Kd.R_alloc | apply Kd.R_drewN | apply Kd.R_drew)); exact HO_13.out⟩, ⟨by (with_reducible repeat (first | refine blk_drewN ?_ _ | refine blk_drew ?_ | refine blk_alloc ?_ _)); exact BK274.out⟩, ⟨by (with_reducible repeat (first | refine blk_drewN ?_ _ | refine blk_drew ?_ | refine blk_alloc ?_ _)); exact BK275.out⟩, ⟨by (with_reducible repeat (first | refine blk_drewN ?_ _ | refine blk_drew ?_ | refine blk_alloc ?_ _)); exact BK282.out⟩, ⟨by (with_reducible repeat (first | refine blk_drewN ?_ _ | refine blk_drew ?_ | refine blk_alloc ?_ _)); exact BK285.out⟩, ⟨by repeat (first | (with_reducible first | exact HB.out | apply below_alloc | apply pw_below_drewN | apply below_drew1 | refine below_set ?_ GE274.out | refine below_set ?_ GE275.out | refine below_set ?_ GE282.out | refine below_set ?_ GE285.out) | exact HB.out)⟩⟩
                    ·rw [if_neg c55] at H
                     have c55b0 : (decide (t297 ≤ x283000_1)) = false := by simpa using c55
                     clear c55
                     have H' := Aside0.mk H
                     clear H
                     try go_wp2
                     replace HO_7 := Aside0.mk (Kd.R_drew HO_7.out)
                     replace HO_12 := Aside0.mk (Kd.R_drew HO_12.out)
                     replace HO_13 := Aside0.mk (Kd.R_drew HO_13.out)
                     replace BK274 := Aside0.mk (blk_drew BK274.out)
                     replace BK275 := Aside0.mk (blk_drew BK275.out)
                     replace BK282 := Aside0.mk (blk_drew BK282.out)
                     replace BK285 := Aside0.mk (blk_drew BK285.out)
                     replace HB := Aside0.mk (below_drew1 HB.out)
                     have p306 : 0 ≤ (x18_2 : Int) := of_decide_eq_true (by first | (with_reducible assumption) | assumption)
                     have q306 : x18_2 < (t286.length : Int) := of_decide_eq_true (by first | (with_reducible assumption) | assumption)
                     obtain ⟨ad306, e306, hx306_0⟩ := Kd.at_int (Kd.R_reads' HO_12.out).2.2 x18_2 p306 q306
                     obtain rfl : ad299 = ad306 := (by injection e306)
                     replace p306 := eq_true p306
                     replace q306 := eq_true q306
                     refine start_ (n := 21) (S := fun w' => w'.cell? ⟨gb285, 0, none⟩ = some (.int .i64 ((rd_T35 t277 x10_1).f0)) ∧ w'.cell? ⟨gb285, 1, none⟩ = some (.int .i64 ((rd_T35 t277 x10_1).f1)) ∧ w'.cell? ⟨gb285, 2, none⟩ = some (.bool ((rd_T35 t277 x10_1).f2)) ∧ w'.cell? (ad299.add (x18_2).toNat) = some (.int .i64 (rd t286 x18_2))) (ds := []) (stickfullaw14_FillGreedy.bm 21 0) (by kernel_rfl) rfl rfl ⟨bc BK285 0, bc BK285 1, bc BK285 2, hx306_0⟩ (fun hHeld => ?_); refine with_tabW stickfullaw14_FillGreedy.tab20 stickfullaw14_FillGreedy.bits20 (fun HT_ HW_ => ?_)
                     generalize w53.drew = w59 at HO_7 HO_12 HO_13 BK274 BK275 BK282 BK285 HB hx306_0 hHeld ⊢
                     refine pure_ (i := 0) (N := some 93) (v := ?_) (a' := ?_) (stickfullaw14_FillGreedy.bm 21 1) rfl rfl (any_of HT_.out (by kernel_rfl)) (fun _ _ _ h => h) (Or.inl ⟨by rfl, ?_⟩) ?_ ?_
                     rotate_left; (focus intro w'; go_simp; with_reducible rfl); rotate_left; (focus simp only [Act.put, List.setIfInBounds_toArray, List.set_cons_zero, List.set_cons_succ, i64_w, i32_w]; rfl)
                     refine pure_ (i := 1) (N := some 94) (v := ?_) (a' := ?_) (stickfullaw14_FillGreedy.bm 21 3) rfl rfl (any_of HT_.out (by kernel_rfl)) (fun _ _ _ h => h) (Or.inl ⟨by rfl, ?_⟩) ?_ ?_
                     rotate_left; (focus intro w'; go_simp; with_reducible rfl); rotate_left; (focus simp only [Act.put, List.setIfInBounds_toArray, List.set_cons_zero, List.set_cons_succ, i64_w, i32_w]; rfl)
                     refine pure_ (i := 2) (N := some 95) (v := ?_) (a' := ?_) (stickfullaw14_FillGreedy.bm 21 7) rfl rfl (any_of HT_.out (by kernel_rfl)) (fun _ _ _ h => h) (Or.inl ⟨by rfl, ?_⟩) ?_ ?_
                     rotate_left; (focus intro w'; go_simp; with_reducible rfl); rotate_left; (focus simp only [Act.put, List.setIfInBounds_toArray, List.set_cons_zero, List.set_cons_succ, i64_w, i32_w]; rfl)
                     refine pure_ (i := 4) (N := some 97) (v := ?_) (a' := ?_) (stickfullaw14_FillGreedy.bm 21 23) rfl rfl (any_of HT_.out (by kernel_rfl)) (fun _ _ _ h => h) (Or.inl ⟨by rfl, ?_⟩) ?_ ?_
                     rotate_left; (focus intro w'; go_simp; with_reducible rfl); rotate_left; (focus simp only [Act.put, List.setIfInBounds_toArray, List.set_cons_zero, List.set_cons_succ, i64_w, i32_w]; rfl)
                     refine take_ (i := 3) (N := some 96) (v := ?_) (a' := ?_) (stickfullaw14_FillGreedy.bm 21 31) rfl rfl (take_ofW HT_.out HW_.out (by kernel_rfl)) (fun _ _ _ h => h) (Or.inl ⟨by rfl, ?_⟩) hHeld ?_ ?_
                     rotate_left; (focus rintro w' ⟨s0, s1, s2, s3⟩; go_simp; with_reducible rfl); rotate_left; (focus simp only [Act.put, List.setIfInBounds_toArray, List.set_cons_zero, List.set_cons_succ, i64_w, i32_w]; rfl)
                     refine take_ (i := 5) (N := some 98) (v := ?_) (a' := ?_) (stickfullaw14_FillGreedy.bm 21 63) rfl rfl (take_ofW HT_.out HW_.out (by kernel_rfl)) (fun _ _ _ h => h) (Or.inl ⟨by rfl, ?_⟩) hHeld ?_ ?_
                     rotate_left; (focus rintro w' ⟨s0, s1, s2, s3⟩; go_simp; with_reducible rfl); rotate_left; (focus simp only [Act.put, List.setIfInBounds_toArray, List.set_cons_zero, List.set_cons_succ, i64_w, i32_w]; rfl)
                     refine pure_ (i := 6) (N := some 99) (v := ?_) (a' := ?_) (stickfullaw14_FillGreedy.bm 21 127) rfl rfl (any_of HT_.out (by kernel_rfl)) (fun _ _ _ h => h) (Or.inl ⟨by rfl, ?_⟩) ?_ ?_
                     rotate_left; (focus intro w'; go_simp; with_reducible rfl); rotate_left; (focus simp only [Act.put, List.setIfInBounds_toArray, List.set_cons_zero, List.set_cons_succ, i64_w, i32_w]; rfl)
                     refine pure_ (i := 7) (N := some 100) (v := ?_) (a' := ?_) (stickfullaw14_FillGreedy.bm 21 255) rfl rfl (any_of HT_.out (by kernel_rfl)) (fun _ _ _ h => h) (Or.inl ⟨by rfl, ?_⟩) ?_ ?_
                     rotate_left; (focus intro w'; go_simp; with_reducible rfl); rotate_left; (focus simp only [Act.put, List.setIfInBounds_toArray, List.set_cons_zero, List.set_cons_succ, i64_w, i32_w]; rfl)
                     refine pure_ (i := 8) (N := some 101) (v := ?_) (a' := ?_) (stickfullaw14_FillGreedy.bm 21 511) rfl rfl (any_of HT_.out (by kernel_rfl)) (fun _ _ _ h => h) (Or.inl ⟨by rfl, ?_⟩) ?_ ?_
                     rotate_left; (focus intro w'; go_simp; with_reducible rfl); rotate_left; (focus simp only [Act.put, List.setIfInBounds_toArray, List.set_cons_zero, List.set_cons_succ, i64_w, i32_w]; rfl)
                     refine pure_ (i := 9) (N := some 102) (v := ?_) (a' := ?_) (stickfullaw14_FillGreedy.bm 21 1023) rfl rfl (any_of HT_.out (by kernel_rfl)) (fun _ _ _ h => h) (Or.inl ⟨by rfl, ?_⟩) ?_ ?_
                     rotate_left; (focus intro w'; go_simp; with_reducible rfl); rotate_left; (focus simp only [Act.put, List.setIfInBounds_toArray, List.set_cons_zero, List.set_cons_succ, i64_w, i32_w]; rfl)
                     refine pure_ (i := 10) (N := some 103) (v := ?_) (a' := ?_) (stickfullaw14_FillGreedy.bm 21 2047) rfl rfl (any_of HT_.out (by kernel_rfl)) (fun _ _ _ h => h) (Or.inl ⟨by rfl, ?_⟩) ?_ ?_
                     rotate_left; (focus intro w'; go_simp; with_reducible rfl); rotate_left; (focus simp only [Act.put, List.setIfInBounds_toArray, List.set_cons_zero, List.set_cons_succ, i64_w, i32_w]; rfl)
                     refine pure_ (i := 11) (N := some 104) (v := undef) (a' := ?_) (stickfullaw14_FillGreedy.bm 21 4095) rfl rfl (any_of HT_.out (by kernel_rfl)) (fun _ _ _ h => h) (Or.inr ⟨by rfl, rfl⟩) ?_ ?_
                     rotate_left; (focus simp only [Act.put, List.setIfInBounds_toArray, List.set_cons_zero, List.set_cons_succ, i64_w, i32_w]; rfl)
                     refine pure_ (i := 12) (N := some 105) (v := undef) (a' := ?_) (stickfullaw14_FillGreedy.bm 21 8191) rfl rfl (any_of HT_.out (by kernel_rfl)) (fun _ _ _ h => h) (Or.inr ⟨by rfl, rfl⟩) ?_ ?_
                     rotate_left; (focus simp only [Act.put, List.setIfInBounds_toArray, List.set_cons_zero, List.set_cons_succ, i64_w, i32_w]; rfl)
                     refine pure_ (i := 13) (N := some 106) (v := ?_) (a' := ?_) (stickfullaw14_FillGreedy.bm 21 16383) rfl rfl (any_of HT_.out (by kernel_rfl)) (fun _ _ _ h => h) (Or.inl ⟨by rfl, ?_⟩) ?_ ?_
                     rotate_left; (focus intro w'; go_simp; with_reducible rfl); rotate_left; (focus simp only [Act.put, List.setIfInBounds_toArray, List.set_cons_zero, List.set_cons_succ, i64_w, i32_w]; rfl)
                     refine pure_ (i := 14) (N := some 107) (v := ?_) (a' := ?_) (stickfullaw14_FillGreedy.bm 21 32767) rfl rfl (any_of HT_.out (by kernel_rfl)) (fun _ _ _ h => h) (Or.inl ⟨by rfl, ?_⟩) ?_ ?_
                     rotate_left; (focus intro w'; go_simp; with_reducible rfl); rotate_left; (focus simp only [Act.put, List.setIfInBounds_toArray, List.set_cons_zero, List.set_cons_succ, i64_w, i32_w]; rfl)
                     refine pure_ (i := 15) (N := some 108) (v := undef) (a' := ?_) (stickfullaw14_FillGreedy.bm 21 65535) rfl rfl (any_of HT_.out (by kernel_rfl)) (fun _ _ _ h => h) (Or.inr ⟨by rfl, rfl⟩) ?_ ?_
                     rotate_left; (focus simp only [Act.put, List.setIfInBounds_toArray, List.set_cons_zero, List.set_cons_succ, i64_w, i32_w]; rfl)
                     refine pure_ (i := 16) (N := some 109) (v := undef) (a' := ?_) (stickfullaw14_FillGreedy.bm 21 131071) rfl rfl (any_of HT_.out (by kernel_rfl)) (fun _ _ _ h => h) (Or.inr ⟨by rfl, rfl⟩) ?_ ?_
                     rotate_left; (focus simp only [Act.put, List.setIfInBounds_toArray, List.set_cons_zero, List.set_cons_succ, i64_w, i32_w]; rfl)
                     refine pure_ (i := 17) (N := some 110) (v := undef) (a' := ?_) (stickfullaw14_FillGreedy.bm 21 262143) rfl rfl (any_of HT_.out (by kernel_rfl)) (fun _ _ _ h => h) (Or.inr ⟨by rfl, rfl⟩) ?_ ?_
                     rotate_left; (focus simp only [Act.put, List.setIfInBounds_toArray, List.set_cons_zero, List.set_cons_succ, i64_w, i32_w]; rfl)
                     refine pure_ (i := 18) (N := some 111) (v := undef) (a' := ?_) (stickfullaw14_FillGreedy.bm 21 524287) rfl rfl (any_of HT_.out (by kernel_rfl)) (fun _ _ _ h => h) (Or.inr ⟨by rfl, rfl⟩) ?_ ?_
                     rotate_left; (focus simp only [Act.put, List.setIfInBounds_toArray, List.set_cons_zero, List.set_cons_succ, i64_w, i32_w]; rfl)
                     refine pure_ (i := 19) (N := some 112) (v := ?_) (a' := ?_) (stickfullaw14_FillGreedy.bm 21 1048575) rfl rfl (any_of HT_.out (by kernel_rfl)) (fun _ _ _ h => h) (Or.inl ⟨by rfl, ?_⟩) ?_ ?_
                     rotate_left; (focus intro w'; go_simp; with_reducible rfl); rotate_left; (focus simp only [Act.put, List.setIfInBounds_toArray, List.set_cons_zero, List.set_cons_succ, i64_w, i32_w]; rfl)
                     refine pure_ (i := 20) (N := some 113) (v := ?_) (a' := ?_) (stickfullaw14_FillGreedy.bm 21 2097151) rfl rfl (any_of HT_.out (by kernel_rfl)) (fun _ _ _ h => h) (Or.inl ⟨by rfl, ?_⟩) ?_ ?_
                     rotate_left; (focus intro w'; go_simp; with_reducible rfl); rotate_left; (focus simp only [Act.put, List.setIfInBounds_toArray, List.set_cons_zero, List.set_cons_succ, i64_w, i32_w]; rfl)
                     refine done_ (done_of HT_.out (by kernel_rfl)) ?_
                     try go_wp2
                     refine Met.intro ?_; go_step; (repeat apply Exists.intro); refine ⟨?rel, ?eq_⟩
                     case eq_ => first | rfl | rw [c55b0] | simp only [c55b0]
                     case rel => exact ⟨_, (true), (by first | rfl | (simp; done) | (simp [*]; done)), H', ⟨by have := HK1.out; have := HK2.out; first | omega | exact Nat.le_refl _⟩, ⟨by (with_reducible repeat (first | apply Kd.R_alloc | apply Kd.R_drewN | apply Kd.R_drew)); exact HO_7.out⟩, ⟨by (with_reducible repeat (first | apply Kd.R_alloc | apply Kd.R_drewN | apply Kd.R_drew)); exact HO_12.out⟩, ⟨by (with_reducible repeat (first | apply Kd.R_alloc | apply Kd.R_drewN | apply Kd.R_drew)); exact HO_13.out⟩, ⟨by (with_reducible repeat (first | refine blk_drewN ?_ _ | refine blk_drew ?_ | refine blk_alloc ?_ _)); exact BK274.out⟩, ⟨by (with_reducible repeat (first | refine blk_drewN ?_ _ | refine blk_drew ?_ | refine blk_alloc ?_ _)); exact BK275.out⟩, ⟨by (with_reducible repeat (first | refine blk_drewN ?_ _ | refine blk_drew ?_ | refine blk_alloc ?_ _)); exact BK282.out⟩, ⟨by (with_reducible repeat (first | refine blk_drewN ?_ _ | refine blk_drew ?_ | refine blk_alloc ?_ _)); exact BK285.out⟩, ⟨by repeat (first | (with_reducible first | exact HB.out | apply below_alloc | apply pw_below_drewN | apply below_drew1 | refine below_set ?_ GE274.out | refine below_set ?_ GE275.out | refine below_set ?_ GE282.out | refine below_set ?_ GE285.out) | exact HB.out)⟩⟩
                   ·rw [if_neg c54] at H
                    have c54b0 : decide ((rd t286 x18_2) < ((rd_T35 t277 x10_1).f1)) = false := decide_eq_false c54
                    clear c54
                    (first | rw [c54b0] | (simp only [i64_w, i32_w]; rw [c54b0]) | skip)
                    have H' := Aside0.mk H
                    clear H
                    try go_wp2
                    replace HO_7 := Aside0.mk (Kd.R_drew HO_7.out)
                    replace HO_12 := Aside0.mk (Kd.R_drew HO_12.out)
                    replace HO_13 := Aside0.mk (Kd.R_drew HO_13.out)
                    replace BK274 := Aside0.mk (blk_drew BK274.out)
                    replace BK275 := Aside0.mk (blk_drew BK275.out)
                    replace BK282 := Aside0.mk (blk_drew BK282.out)
                    replace BK285 := Aside0.mk (blk_drew BK285.out)
                    replace HB := Aside0.mk (below_drew1 HB.out)
                    have p306 : 0 ≤ (x18_2 : Int) := of_decide_eq_true (by first | (with_reducible assumption) | assumption)
                    have q306 : x18_2 < (t286.length : Int) := of_decide_eq_true (by first | (with_reducible assumption) | assumption)
                    obtain ⟨ad306, e306, hx306_0⟩ := Kd.at_int (Kd.R_reads' HO_12.out).2.2 x18_2 p306 q306
                    obtain rfl : ad299 = ad306 := (by injection e306)
                    replace p306 := eq_true p306
                    replace q306 := eq_true q306
                    refine start_ (n := 21) (S := fun w' => w'.cell? ⟨gb285, 0, none⟩ = some (.int .i64 ((rd_T35 t277 x10_1).f0)) ∧ w'.cell? ⟨gb285, 1, none⟩ = some (.int .i64 ((rd_T35 t277 x10_1).f1)) ∧ w'.cell? ⟨gb285, 2, none⟩ = some (.bool ((rd_T35 t277 x10_1).f2)) ∧ w'.cell? (ad299.add (x18_2).toNat) = some (.int .i64 (rd t286 x18_2))) (ds := []) (stickfullaw14_FillGreedy.bm 21 0) (by kernel_rfl) rfl rfl ⟨bc BK285 0, bc BK285 1, bc BK285 2, hx306_0⟩ (fun hHeld => ?_); refine with_tabW stickfullaw14_FillGreedy.tab20 stickfullaw14_FillGreedy.bits20 (fun HT_ HW_ => ?_)
                    generalize w53.drew = w60 at HO_7 HO_12 HO_13 BK274 BK275 BK282 BK285 HB hx306_0 hHeld ⊢
                    refine pure_ (i := 0) (N := some 93) (v := ?_) (a' := ?_) (stickfullaw14_FillGreedy.bm 21 1) rfl rfl (any_of HT_.out (by kernel_rfl)) (fun _ _ _ h => h) (Or.inl ⟨by rfl, ?_⟩) ?_ ?_
                    rotate_left; (focus intro w'; go_simp; with_reducible rfl); rotate_left; (focus simp only [Act.put, List.setIfInBounds_toArray, List.set_cons_zero, List.set_cons_succ, i64_w, i32_w]; rfl)
                    refine pure_ (i := 1) (N := some 94) (v := ?_) (a' := ?_) (stickfullaw14_FillGreedy.bm 21 3) rfl rfl (any_of HT_.out (by kernel_rfl)) (fun _ _ _ h => h) (Or.inl ⟨by rfl, ?_⟩) ?_ ?_
                    rotate_left; (focus intro w'; go_simp; with_reducible rfl); rotate_left; (focus simp only [Act.put, List.setIfInBounds_toArray, List.set_cons_zero, List.set_cons_succ, i64_w, i32_w]; rfl)
                    refine pure_ (i := 2) (N := some 95) (v := ?_) (a' := ?_) (stickfullaw14_FillGreedy.bm 21 7) rfl rfl (any_of HT_.out (by kernel_rfl)) (fun _ _ _ h => h) (Or.inl ⟨by rfl, ?_⟩) ?_ ?_
                    rotate_left; (focus intro w'; go_simp; with_reducible rfl); rotate_left; (focus simp only [Act.put, List.setIfInBounds_toArray, List.set_cons_zero, List.set_cons_succ, i64_w, i32_w]; rfl)
                    refine pure_ (i := 4) (N := some 97) (v := ?_) (a' := ?_) (stickfullaw14_FillGreedy.bm 21 23) rfl rfl (any_of HT_.out (by kernel_rfl)) (fun _ _ _ h => h) (Or.inl ⟨by rfl, ?_⟩) ?_ ?_
                    rotate_left; (focus intro w'; go_simp; with_reducible rfl); rotate_left; (focus simp only [Act.put, List.setIfInBounds_toArray, List.set_cons_zero, List.set_cons_succ, i64_w, i32_w]; rfl)
                    refine take_ (i := 3) (N := some 96) (v := ?_) (a' := ?_) (stickfullaw14_FillGreedy.bm 21 31) rfl rfl (take_ofW HT_.out HW_.out (by kernel_rfl)) (fun _ _ _ h => h) (Or.inl ⟨by rfl, ?_⟩) hHeld ?_ ?_
                    rotate_left; (focus rintro w' ⟨s0, s1, s2, s3⟩; go_simp; with_reducible rfl); rotate_left; (focus simp only [Act.put, List.setIfInBounds_toArray, List.set_cons_zero, List.set_cons_succ, i64_w, i32_w]; rfl)
                    refine take_ (i := 5) (N := some 98) (v := ?_) (a' := ?_) (stickfullaw14_FillGreedy.bm 21 63) rfl rfl (take_ofW HT_.out HW_.out (by kernel_rfl)) (fun _ _ _ h => h) (Or.inl ⟨by rfl, ?_⟩) hHeld ?_ ?_
                    rotate_left; (focus rintro w' ⟨s0, s1, s2, s3⟩; go_simp; with_reducible rfl); rotate_left; (focus simp only [Act.put, List.setIfInBounds_toArray, List.set_cons_zero, List.set_cons_succ, i64_w, i32_w]; rfl)
                    refine pure_ (i := 6) (N := some 99) (v := ?_) (a' := ?_) (stickfullaw14_FillGreedy.bm 21 127) rfl rfl (any_of HT_.out (by kernel_rfl)) (fun _ _ _ h => h) (Or.inl ⟨by rfl, ?_⟩) ?_ ?_
                    rotate_left; (focus intro w'; go_simp; with_reducible rfl); rotate_left; (focus simp only [Act.put, List.setIfInBounds_toArray, List.set_cons_zero, List.set_cons_succ, i64_w, i32_w]; rfl)
                    refine pure_ (i := 7) (N := some 100) (v := ?_) (a' := ?_) (stickfullaw14_FillGreedy.bm 21 255) rfl rfl (any_of HT_.out (by kernel_rfl)) (fun _ _ _ h => h) (Or.inl ⟨by rfl, ?_⟩) ?_ ?_
                    rotate_left; (focus intro w'; go_simp; with_reducible rfl); rotate_left; (focus simp only [Act.put, List.setIfInBounds_toArray, List.set_cons_zero, List.set_cons_succ, i64_w, i32_w]; rfl)
                    refine pure_ (i := 8) (N := some 101) (v := undef) (a' := ?_) (stickfullaw14_FillGreedy.bm 21 511) rfl rfl (any_of HT_.out (by kernel_rfl)) (fun _ _ _ h => h) (Or.inr ⟨by rfl, rfl⟩) ?_ ?_
                    rotate_left; (focus simp only [Act.put, List.setIfInBounds_toArray, List.set_cons_zero, List.set_cons_succ, i64_w, i32_w]; rfl)
                    refine pure_ (i := 9) (N := some 102) (v := undef) (a' := ?_) (stickfullaw14_FillGreedy.bm 21 1023) rfl rfl (any_of HT_.out (by kernel_rfl)) (fun _ _ _ h => h) (Or.inr ⟨by rfl, rfl⟩) ?_ ?_
                    rotate_left; (focus simp only [Act.put, List.setIfInBounds_toArray, List.set_cons_zero, List.set_cons_succ, i64_w, i32_w]; rfl)
                    refine pure_ (i := 10) (N := some 103) (v := undef) (a' := ?_) (stickfullaw14_FillGreedy.bm 21 2047) rfl rfl (any_of HT_.out (by kernel_rfl)) (fun _ _ _ h => h) (Or.inr ⟨by rfl, rfl⟩) ?_ ?_
                    rotate_left; (focus simp only [Act.put, List.setIfInBounds_toArray, List.set_cons_zero, List.set_cons_succ, i64_w, i32_w]; rfl)
                    refine pure_ (i := 11) (N := some 104) (v := undef) (a' := ?_) (stickfullaw14_FillGreedy.bm 21 4095) rfl rfl (any_of HT_.out (by kernel_rfl)) (fun _ _ _ h => h) (Or.inr ⟨by rfl, rfl⟩) ?_ ?_
                    rotate_left; (focus simp only [Act.put, List.setIfInBounds_toArray, List.set_cons_zero, List.set_cons_succ, i64_w, i32_w]; rfl)
                    refine pure_ (i := 12) (N := some 105) (v := undef) (a' := ?_) (stickfullaw14_FillGreedy.bm 21 8191) rfl rfl (any_of HT_.out (by kernel_rfl)) (fun _ _ _ h => h) (Or.inr ⟨by rfl, rfl⟩) ?_ ?_
                    rotate_left; (focus simp only [Act.put, List.setIfInBounds_toArray, List.set_cons_zero, List.set_cons_succ, i64_w, i32_w]; rfl)
                    refine pure_ (i := 13) (N := some 106) (v := undef) (a' := ?_) (stickfullaw14_FillGreedy.bm 21 16383) rfl rfl (any_of HT_.out (by kernel_rfl)) (fun _ _ _ h => h) (Or.inr ⟨by rfl, rfl⟩) ?_ ?_
                    rotate_left; (focus simp only [Act.put, List.setIfInBounds_toArray, List.set_cons_zero, List.set_cons_succ, i64_w, i32_w]; rfl)
                    refine pure_ (i := 14) (N := some 107) (v := undef) (a' := ?_) (stickfullaw14_FillGreedy.bm 21 32767) rfl rfl (any_of HT_.out (by kernel_rfl)) (fun _ _ _ h => h) (Or.inr ⟨by rfl, rfl⟩) ?_ ?_
                    rotate_left; (focus simp only [Act.put, List.setIfInBounds_toArray, List.set_cons_zero, List.set_cons_succ, i64_w, i32_w]; rfl)
                    refine pure_ (i := 15) (N := some 108) (v := undef) (a' := ?_) (stickfullaw14_FillGreedy.bm 21 65535) rfl rfl (any_of HT_.out (by kernel_rfl)) (fun _ _ _ h => h) (Or.inr ⟨by rfl, rfl⟩) ?_ ?_
                    rotate_left; (focus simp only [Act.put, List.setIfInBounds_toArray, List.set_cons_zero, List.set_cons_succ, i64_w, i32_w]; rfl)
                    refine pure_ (i := 16) (N := some 109) (v := undef) (a' := ?_) (stickfullaw14_FillGreedy.bm 21 131071) rfl rfl (any_of HT_.out (by kernel_rfl)) (fun _ _ _ h => h) (Or.inr ⟨by rfl, rfl⟩) ?_ ?_
                    rotate_left; (focus simp only [Act.put, List.setIfInBounds_toArray, List.set_cons_zero, List.set_cons_succ, i64_w, i32_w]; rfl)
                    refine pure_ (i := 17) (N := some 110) (v := undef) (a' := ?_) (stickfullaw14_FillGreedy.bm 21 262143) rfl rfl (any_of HT_.out (by kernel_rfl)) (fun _ _ _ h => h) (Or.inr ⟨by rfl, rfl⟩) ?_ ?_
                    rotate_left; (focus simp only [Act.put, List.setIfInBounds_toArray, List.set_cons_zero, List.set_cons_succ, i64_w, i32_w]; rfl)
                    refine pure_ (i := 18) (N := some 111) (v := undef) (a' := ?_) (stickfullaw14_FillGreedy.bm 21 524287) rfl rfl (any_of HT_.out (by kernel_rfl)) (fun _ _ _ h => h) (Or.inr ⟨by rfl, rfl⟩) ?_ ?_
                    rotate_left; (focus simp only [Act.put, List.setIfInBounds_toArray, List.set_cons_zero, List.set_cons_succ, i64_w, i32_w]; rfl)
                    refine pure_ (i := 19) (N := some 112) (v := undef) (a' := ?_) (stickfullaw14_FillGreedy.bm 21 1048575) rfl rfl (any_of HT_.out (by kernel_rfl)) (fun _ _ _ h => h) (Or.inr ⟨by rfl, rfl⟩) ?_ ?_
                    rotate_left; (focus simp only [Act.put, List.setIfInBounds_toArray, List.set_cons_zero, List.set_cons_succ, i64_w, i32_w]; rfl)
                    refine pure_ (i := 20) (N := some 113) (v := ?_) (a' := ?_) (stickfullaw14_FillGreedy.bm 21 2097151) rfl rfl (any_of HT_.out (by kernel_rfl)) (fun _ _ _ h => h) (Or.inl ⟨by rfl, ?_⟩) ?_ ?_
                    rotate_left; (focus intro w'; go_simp; with_reducible rfl); rotate_left; (focus simp only [Act.put, List.setIfInBounds_toArray, List.set_cons_zero, List.set_cons_succ, i64_w, i32_w]; rfl)
                    refine done_ (done_of HT_.out (by kernel_rfl)) ?_
                    try go_wp2
                    go_meet
                    case rel => exact ⟨_, (false), (by first | rfl | (simp; done) | (simp [*]; done)), H', ⟨by have := HK1.out; have := HK2.out; first | omega | exact Nat.le_refl _⟩, ⟨by (with_reducible repeat (first | apply Kd.R_alloc | apply Kd.R_drewN | apply Kd.R_drew)); exact HO_7.out⟩, ⟨by (with_reducible repeat (first | apply Kd.R_alloc | apply Kd.R_drewN | apply Kd.R_drew)); exact HO_12.out⟩, ⟨by (with_reducible repeat (first | apply Kd.R_alloc | apply Kd.R_drewN | apply Kd.R_drew)); exact HO_13.out⟩, ⟨by (with_reducible repeat (first | refine blk_drewN ?_ _ | refine blk_drew ?_ | refine blk_alloc ?_ _)); exact BK274.out⟩, ⟨by (with_reducible repeat (first | refine blk_drewN ?_ _ | refine blk_drew ?_ | refine blk_alloc ?_ _)); exact BK275.out⟩, ⟨by (with_reducible repeat (first | refine blk_drewN ?_ _ | refine blk_drew ?_ | refine blk_alloc ?_ _)); exact BK282.out⟩, ⟨by (with_reducible repeat (first | refine blk_drewN ?_ _ | refine blk_drew ?_ | refine blk_alloc ?_ _)); exact BK285.out⟩, ⟨by repeat (first | (with_reducible first | exact HB.out | apply below_alloc | apply pw_below_drewN | apply below_drew1 | refine below_set ?_ GE274.out | refine below_set ?_ GE275.out | refine below_set ?_ GE282.out | refine below_set ?_ GE285.out) | exact HB.out)⟩⟩
                  case rest =>
                   clear HC49
                   try clear p2
                   try clear p3
                   try clear q3
                   try clear hx3
                   try clear c5
                   try clear p30
                   try clear q30
                   try clear hx30
                   try clear c54
                   try clear c54b0
                   try clear c55
                   try clear c55b0
                   try clear c56
                   try clear c56b0
                   try clear c56b1
                   try clear hx306_0
                   try clear p306
                   try clear q306
                   obtain ⟨kq, x113_48, rfl, HA, HJ48, HO_7, HO_12, HO_13, BK274, BK275, BK282, BK285, HB⟩ := hcut
                   cases kq with
                   | zero => exact absurd HA.out (by simp [stickfullaw14_FillGreedy.j2])
                   | succ kj48 =>
                    have H := HA.out
                    clear HA
                    simp only [stickfullaw14_FillGreedy.j2] at H
                    by_cases c61 : x113_48 = true
                    ·subst c61
                     have H1 : (some false) = some r := by rw [if_pos rfl] at H; exact H
                     clear H
                     have H := H1
                     clear H1
                     exact absurd ((Option.some.inj H).trans HR_.out) (by decide)
                    ·replace c61 := Bool.eq_false_iff.mpr c61
                     subst c61
                     have H1 : (if 0 ≤ x18_2 then (if x18_2 < (t286.length : Int) then (if (rd t286 x18_2) > ((rd_T35 t277 x10_1).f1) then (if x18_2 = 0 then (if t305 = 0 then (if t304 ≤ x283000_1 then (some false) else (stickfullaw14_FillGreedy.l1 kj48 l0 t277 x10_1 t286 t287 (decide (t297 ≤ x283000_1)) (wrap64 (x18_2 + 1)) a2_0 a2_1 x283000_1 x283001_1 ((rd_T35 t277 x10_1).f0) ((rd_T35 t277 x10_1).f1) ((rd_T35 t277 x10_1).f2))) else (stickfullaw14_FillGreedy.l1 kj48 l0 t277 x10_1 t286 t287 (decide (t297 ≤ x283000_1)) (wrap64 (x18_2 + 1)) a2_0 a2_1 x283000_1 x283001_1 ((rd_T35 t277 x10_1).f0) ((rd_T35 t277 x10_1).f1) ((rd_T35 t277 x10_1).f2))) else (if (decide (t297 ≤ x283000_1)) = true then (if 0 ≤ (wrap64 (x18_2 - 1)) then (if (wrap64 (x18_2 - 1)) < (t286.length : Int) then (if (rd t286 (wrap64 (x18_2 - 1))) ≤ ((rd_T35 t277 x10_1).f1) then (if t305 = 0 then (if t304 ≤ x283000_1 then (some false) else (stickfullaw14_FillGreedy.l1 kj48 l0 t277 x10_1 t286 t287 (decide (t297 ≤ x283000_1)) (wrap64 (x18_2 + 1)) a2_0 a2_1 x283000_1 x283001_1 ((rd_T35 t277 x10_1).f0) ((rd_T35 t277 x10_1).f1) ((rd_T35 t277 x10_1).f2))) else (stickfullaw14_FillGreedy.l1 kj48 l0 t277 x10_1 t286 t287 (decide (t297 ≤ x283000_1)) (wrap64 (x18_2 + 1)) a2_0 a2_1 x283000_1 x283001_1 ((rd_T35 t277 x10_1).f0) ((rd_T35 t277 x10_1).f1) ((rd_T35 t277 x10_1).f2))) else (stickfullaw14_FillGreedy.l1 kj48 l0 t277 x10_1 t286 t287 (decide (t297 ≤ x283000_1)) (wrap64 (x18_2 + 1)) a2_0 a2_1 x283000_1 x283001_1 ((rd_T35 t277 x10_1).f0) ((rd_T35 t277 x10_1).f1) ((rd_T35 t277 x10_1).f2))) else (none)) else (none)) else (stickfullaw14_FillGreedy.l1 kj48 l0 t277 x10_1 t286 t287 (decide (t297 ≤ x283000_1)) (wrap64 (x18_2 + 1)) a2_0 a2_1 x283000_1 x283001_1 ((rd_T35 t277 x10_1).f0) ((rd_T35 t277 x10_1).f1) ((rd_T35 t277 x10_1).f2)))) else (stickfullaw14_FillGreedy.l1 kj48 l0 t277 x10_1 t286 t287 (decide (t297 ≤ x283000_1)) (wrap64 (x18_2 + 1)) a2_0 a2_1 x283000_1 x283001_1 ((rd_T35 t277 x10_1).f0) ((rd_T35 t277 x10_1).f1) ((rd_T35 t277 x10_1).f2))) else (none)) else (none)) = some r := by rw [if_neg (show ¬ (false = true) by decide)] at H; exact H
                     clear H
                     have H := H1
                     clear H1
                     by_cases c62 : 0 ≤ x18_2
                     ·rw [if_pos c62] at H
                      have c62b0 : decide (0 ≤ x18_2) = true := decide_eq_true c62
                      clear c62
                      by_cases c63 : x18_2 < (t286.length : Int)
                      ·rw [if_pos c63] at H
                       have c63b0 : decide (x18_2 < (t286.length : Int)) = true := decide_eq_true c63
                       clear c63
                       by_cases c64 : (rd t286 x18_2) > ((rd_T35 t277 x10_1).f1)
                       ·rw [if_pos c64] at H
                        have c64b0 : decide (((rd_T35 t277 x10_1).f1) < (rd t286 x18_2)) = true := decide_eq_true c64
                        clear c64
                        by_cases c65 : x18_2 = 0
                        ·rw [if_pos c65] at H
                         have c65b0 : (x18_2 == 0) = true := beq_iff_eq.mpr c65
                         have c65b1 : (x18_2 != 0) = false := bne_eq_false_iff_eq.mpr c65
                         clear c65
                         by_cases c66 : t305 = 0
                         ·rw [if_pos c66] at H
                          have c66b0 : (t305 == 0) = true := beq_iff_eq.mpr c66
                          have c66b1 : (t305 != 0) = false := bne_eq_false_iff_eq.mpr c66
                          clear c66
                          by_cases c67 : t304 ≤ x283000_1
                          ·rw [if_pos c67] at H
                           have c67b0 : decide (t304 ≤ x283000_1) = true := decide_eq_true c67
                           clear c67
                           exact absurd ((Option.some.inj H).trans HR_.out) (by decide)
                          ·rw [if_neg c67] at H
                           have c67b0 : decide (t304 ≤ x283000_1) = false := decide_eq_false c67
                           clear c67
                           have H' := Aside0.mk H
                           clear H
                           try go_wp2
                           replace HO_7 := Aside0.mk (Kd.R_drew HO_7.out)
                           replace HO_12 := Aside0.mk (Kd.R_drew HO_12.out)
                           replace HO_13 := Aside0.mk (Kd.R_drew HO_13.out)
                           replace BK274 := Aside0.mk (blk_drew BK274.out)
                           replace BK275 := Aside0.mk (blk_drew BK275.out)
                           replace BK282 := Aside0.mk (blk_drew BK282.out)
                           replace BK285 := Aside0.mk (blk_drew BK285.out)
                           replace HB := Aside0.mk (below_drew1 HB.out)
                           have p307 : 0 ≤ (x18_2 : Int) := of_decide_eq_true (by first | (with_reducible assumption) | assumption)
                           have q307 : x18_2 < (t286.length : Int) := of_decide_eq_true (by first | (with_reducible assumption) | assumption)
                           obtain ⟨ad307, e307, hx307_0⟩ := Kd.at_int (Kd.R_reads' HO_12.out).2.2 x18_2 p307 q307
                           obtain rfl : ad299 = ad307 := (by injection e307)
                           replace p307 := eq_true p307
                           replace q307 := eq_true q307
                           refine start_ (n := 34) (S := fun w' => w'.cell? ⟨gb285, 0, none⟩ = some (.int .i64 ((rd_T35 t277 x10_1).f0)) ∧ w'.cell? ⟨gb285, 1, none⟩ = some (.int .i64 ((rd_T35 t277 x10_1).f1)) ∧ w'.cell? ⟨gb285, 2, none⟩ = some (.bool ((rd_T35 t277 x10_1).f2)) ∧ w'.cell? ⟨gb282, 0, none⟩ = some (.int .i64 x283000_1) ∧ w'.cell? ⟨gb282, 1, none⟩ = some (.int .i64 x283001_1) ∧ w'.cell? (ad299.add (x18_2).toNat) = some (.int .i64 (rd t286 x18_2))) (ds := []) (stickfullaw14_FillGreedy.bm 34 0) (by kernel_rfl) rfl rfl ⟨bc BK285 0, bc BK285 1, bc BK285 2, bc BK282 0, bc BK282 1, hx307_0⟩ (fun hHeld => ?_); refine with_tabW stickfullaw14_FillGreedy.tab22 stickfullaw14_FillGreedy.bits22 (fun HT_ HW_ => ?_)
                           generalize wc.drew = w68 at HO_7 HO_12 HO_13 BK274 BK275 BK282 BK285 HB hx307_0 hHeld ⊢
                           refine pure_ (i := 0) (N := some 114) (v := ?_) (a' := ?_) (stickfullaw14_FillGreedy.bm 34 1) rfl rfl (any_of HT_.out (by kernel_rfl)) (fun _ _ _ h => h) (Or.inl ⟨by rfl, ?_⟩) ?_ ?_
                           rotate_left; (focus intro w'; go_simp; with_reducible rfl); rotate_left; (focus simp only [Act.put, List.setIfInBounds_toArray, List.set_cons_zero, List.set_cons_succ, i64_w, i32_w]; rfl)
                           refine pure_ (i := 1) (N := some 115) (v := ?_) (a' := ?_) (stickfullaw14_FillGreedy.bm 34 3) rfl rfl (any_of HT_.out (by kernel_rfl)) (fun _ _ _ h => h) (Or.inl ⟨by rfl, ?_⟩) ?_ ?_
                           rotate_left; (focus intro w'; go_simp; with_reducible rfl); rotate_left; (focus simp only [Act.put, List.setIfInBounds_toArray, List.set_cons_zero, List.set_cons_succ, i64_w, i32_w]; rfl)
                           refine pure_ (i := 2) (N := some 116) (v := ?_) (a' := ?_) (stickfullaw14_FillGreedy.bm 34 7) rfl rfl (any_of HT_.out (by kernel_rfl)) (fun _ _ _ h => h) (Or.inl ⟨by rfl, ?_⟩) ?_ ?_
                           rotate_left; (focus intro w'; go_simp; with_reducible rfl); rotate_left; (focus simp only [Act.put, List.setIfInBounds_toArray, List.set_cons_zero, List.set_cons_succ, i64_w, i32_w]; rfl)
                           refine pure_ (i := 4) (N := some 118) (v := ?_) (a' := ?_) (stickfullaw14_FillGreedy.bm 34 23) rfl rfl (any_of HT_.out (by kernel_rfl)) (fun _ _ _ h => h) (Or.inl ⟨by rfl, ?_⟩) ?_ ?_
                           rotate_left; (focus intro w'; go_simp; with_reducible rfl); rotate_left; (focus simp only [Act.put, List.setIfInBounds_toArray, List.set_cons_zero, List.set_cons_succ, i64_w, i32_w]; rfl)
                           refine take_ (i := 3) (N := some 117) (v := ?_) (a' := ?_) (stickfullaw14_FillGreedy.bm 34 31) rfl rfl (take_ofW HT_.out HW_.out (by kernel_rfl)) (fun _ _ _ h => h) (Or.inl ⟨by rfl, ?_⟩) hHeld ?_ ?_
                           rotate_left; (focus rintro w' ⟨s0, s1, s2, s3, s4, s5⟩; go_simp; with_reducible rfl); rotate_left; (focus simp only [Act.put, List.setIfInBounds_toArray, List.set_cons_zero, List.set_cons_succ, i64_w, i32_w]; rfl)
                           refine take_ (i := 5) (N := some 119) (v := ?_) (a' := ?_) (stickfullaw14_FillGreedy.bm 34 63) rfl rfl (take_ofW HT_.out HW_.out (by kernel_rfl)) (fun _ _ _ h => h) (Or.inl ⟨by rfl, ?_⟩) hHeld ?_ ?_
                           rotate_left; (focus rintro w' ⟨s0, s1, s2, s3, s4, s5⟩; go_simp; with_reducible rfl); rotate_left; (focus simp only [Act.put, List.setIfInBounds_toArray, List.set_cons_zero, List.set_cons_succ, i64_w, i32_w]; rfl)
                           refine pure_ (i := 6) (N := some 120) (v := ?_) (a' := ?_) (stickfullaw14_FillGreedy.bm 34 127) rfl rfl (any_of HT_.out (by kernel_rfl)) (fun _ _ _ h => h) (Or.inl ⟨by rfl, ?_⟩) ?_ ?_
                           rotate_left; (focus intro w'; go_simp; with_reducible rfl); rotate_left; (focus simp only [Act.put, List.setIfInBounds_toArray, List.set_cons_zero, List.set_cons_succ, i64_w, i32_w]; rfl)
                           refine pure_ (i := 7) (N := some 121) (v := ?_) (a' := ?_) (stickfullaw14_FillGreedy.bm 34 255) rfl rfl (any_of HT_.out (by kernel_rfl)) (fun _ _ _ h => h) (Or.inl ⟨by rfl, ?_⟩) ?_ ?_
                           rotate_left; (focus intro w'; go_simp; with_reducible rfl); rotate_left; (focus simp only [Act.put, List.setIfInBounds_toArray, List.set_cons_zero, List.set_cons_succ, i64_w, i32_w]; rfl)
                           refine pure_ (i := 8) (N := some 122) (v := ?_) (a' := ?_) (stickfullaw14_FillGreedy.bm 34 511) rfl rfl (any_of HT_.out (by kernel_rfl)) (fun _ _ _ h => h) (Or.inl ⟨by rfl, ?_⟩) ?_ ?_
                           rotate_left; (focus intro w'; go_simp; with_reducible rfl); rotate_left; (focus simp only [Act.put, List.setIfInBounds_toArray, List.set_cons_zero, List.set_cons_succ, i64_w, i32_w]; rfl)
                           refine pure_ (i := 9) (N := some 123) (v := ?_) (a' := ?_) (stickfullaw14_FillGreedy.bm 34 1023) rfl rfl (any_of HT_.out (by kernel_rfl)) (fun _ _ _ h => h) (Or.inl ⟨by rfl, ?_⟩) ?_ ?_
                           rotate_left; (focus intro w'; go_simp; with_reducible rfl); rotate_left; (focus simp only [Act.put, List.setIfInBounds_toArray, List.set_cons_zero, List.set_cons_succ, i64_w, i32_w]; rfl)
                           refine pure_ (i := 10) (N := some 124) (v := ?_) (a' := ?_) (stickfullaw14_FillGreedy.bm 34 2047) rfl rfl (any_of HT_.out (by kernel_rfl)) (fun _ _ _ h => h) (Or.inl ⟨by rfl, ?_⟩) ?_ ?_
                           rotate_left; (focus intro w'; go_simp; with_reducible rfl); rotate_left; (focus simp only [Act.put, List.setIfInBounds_toArray, List.set_cons_zero, List.set_cons_succ, i64_w, i32_w]; rfl)
                           refine pure_ (i := 11) (N := some 125) (v := undef) (a' := ?_) (stickfullaw14_FillGreedy.bm 34 4095) rfl rfl (any_of HT_.out (by kernel_rfl)) (fun _ _ _ h => h) (Or.inr ⟨by rfl, rfl⟩) ?_ ?_
                           rotate_left; (focus simp only [Act.put, List.setIfInBounds_toArray, List.set_cons_zero, List.set_cons_succ, i64_w, i32_w]; rfl)
                           refine pure_ (i := 12) (N := some 126) (v := undef) (a' := ?_) (stickfullaw14_FillGreedy.bm 34 8191) rfl rfl (any_of HT_.out (by kernel_rfl)) (fun _ _ _ h => h) (Or.inr ⟨by rfl, rfl⟩) ?_ ?_
                           rotate_left; (focus simp only [Act.put, List.setIfInBounds_toArray, List.set_cons_zero, List.set_cons_succ, i64_w, i32_w]; rfl)
                           refine pure_ (i := 13) (N := some 127) (v := undef) (a' := ?_) (stickfullaw14_FillGreedy.bm 34 16383) rfl rfl (any_of HT_.out (by kernel_rfl)) (fun _ _ _ h => h) (Or.inr ⟨by rfl, rfl⟩) ?_ ?_
                           rotate_left; (focus simp only [Act.put, List.setIfInBounds_toArray, List.set_cons_zero, List.set_cons_succ, i64_w, i32_w]; rfl)
                           refine pure_ (i := 14) (N := some 128) (v := undef) (a' := ?_) (stickfullaw14_FillGreedy.bm 34 32767) rfl rfl (any_of HT_.out (by kernel_rfl)) (fun _ _ _ h => h) (Or.inr ⟨by rfl, rfl⟩) ?_ ?_
                           rotate_left; (focus simp only [Act.put, List.setIfInBounds_toArray, List.set_cons_zero, List.set_cons_succ, i64_w, i32_w]; rfl)
                           refine pure_ (i := 15) (N := some 129) (v := undef) (a' := ?_) (stickfullaw14_FillGreedy.bm 34 65535) rfl rfl (any_of HT_.out (by kernel_rfl)) (fun _ _ _ h => h) (Or.inr ⟨by rfl, rfl⟩) ?_ ?_
                           rotate_left; (focus simp only [Act.put, List.setIfInBounds_toArray, List.set_cons_zero, List.set_cons_succ, i64_w, i32_w]; rfl)
                           refine pure_ (i := 16) (N := some 130) (v := undef) (a' := ?_) (stickfullaw14_FillGreedy.bm 34 131071) rfl rfl (any_of HT_.out (by kernel_rfl)) (fun _ _ _ h => h) (Or.inr ⟨by rfl, rfl⟩) ?_ ?_
                           rotate_left; (focus simp only [Act.put, List.setIfInBounds_toArray, List.set_cons_zero, List.set_cons_succ, i64_w, i32_w]; rfl)
                           refine pure_ (i := 17) (N := some 131) (v := undef) (a' := ?_) (stickfullaw14_FillGreedy.bm 34 262143) rfl rfl (any_of HT_.out (by kernel_rfl)) (fun _ _ _ h => h) (Or.inr ⟨by rfl, rfl⟩) ?_ ?_
                           rotate_left; (focus simp only [Act.put, List.setIfInBounds_toArray, List.set_cons_zero, List.set_cons_succ, i64_w, i32_w]; rfl)
                           refine pure_ (i := 18) (N := some 132) (v := undef) (a' := ?_) (stickfullaw14_FillGreedy.bm 34 524287) rfl rfl (any_of HT_.out (by kernel_rfl)) (fun _ _ _ h => h) (Or.inr ⟨by rfl, rfl⟩) ?_ ?_
                           rotate_left; (focus simp only [Act.put, List.setIfInBounds_toArray, List.set_cons_zero, List.set_cons_succ, i64_w, i32_w]; rfl)
                           refine pure_ (i := 19) (N := some 133) (v := undef) (a' := ?_) (stickfullaw14_FillGreedy.bm 34 1048575) rfl rfl (any_of HT_.out (by kernel_rfl)) (fun _ _ _ h => h) (Or.inr ⟨by rfl, rfl⟩) ?_ ?_
                           rotate_left; (focus simp only [Act.put, List.setIfInBounds_toArray, List.set_cons_zero, List.set_cons_succ, i64_w, i32_w]; rfl)
                           refine pure_ (i := 20) (N := some 134) (v := undef) (a' := ?_) (stickfullaw14_FillGreedy.bm 34 2097151) rfl rfl (any_of HT_.out (by kernel_rfl)) (fun _ _ _ h => h) (Or.inr ⟨by rfl, rfl⟩) ?_ ?_
                           rotate_left; (focus simp only [Act.put, List.setIfInBounds_toArray, List.set_cons_zero, List.set_cons_succ, i64_w, i32_w]; rfl)
                           refine pure_ (i := 21) (N := some 135) (v := undef) (a' := ?_) (stickfullaw14_FillGreedy.bm 34 4194303) rfl rfl (any_of HT_.out (by kernel_rfl)) (fun _ _ _ h => h) (Or.inr ⟨by rfl, rfl⟩) ?_ ?_
                           rotate_left; (focus simp only [Act.put, List.setIfInBounds_toArray, List.set_cons_zero, List.set_cons_succ, i64_w, i32_w]; rfl)
                           refine pure_ (i := 22) (N := some 136) (v := ?_) (a' := ?_) (stickfullaw14_FillGreedy.bm 34 8388607) rfl rfl (any_of HT_.out (by kernel_rfl)) (fun _ _ _ h => h) (Or.inl ⟨by rfl, ?_⟩) ?_ ?_
                           rotate_left; (focus intro w'; go_simp; with_reducible rfl); rotate_left; (focus simp only [Act.put, List.setIfInBounds_toArray, List.set_cons_zero, List.set_cons_succ, i64_w, i32_w]; rfl)
                           refine pure_ (i := 23) (N := some 137) (v := ?_) (a' := ?_) (stickfullaw14_FillGreedy.bm 34 16777215) rfl rfl (any_of HT_.out (by kernel_rfl)) (fun _ _ _ h => h) (Or.inl ⟨by rfl, ?_⟩) ?_ ?_
                           rotate_left; (focus intro w'; go_simp; with_reducible rfl); rotate_left; (focus simp only [Act.put, List.setIfInBounds_toArray, List.set_cons_zero, List.set_cons_succ, i64_w, i32_w]; rfl)
                           refine pure_ (i := 24) (N := some 138) (v := ?_) (a' := ?_) (stickfullaw14_FillGreedy.bm 34 33554431) rfl rfl (any_of HT_.out (by kernel_rfl)) (fun _ _ _ h => h) (Or.inl ⟨by rfl, ?_⟩) ?_ ?_
                           rotate_left; (focus intro w'; go_simp; with_reducible rfl); rotate_left; (focus simp only [Act.put, List.setIfInBounds_toArray, List.set_cons_zero, List.set_cons_succ, i64_w, i32_w]; rfl)
                           refine pure_ (i := 25) (N := some 139) (v := ?_) (a' := ?_) (stickfullaw14_FillGreedy.bm 34 67108863) rfl rfl (any_of HT_.out (by kernel_rfl)) (fun _ _ _ h => h) (Or.inl ⟨by rfl, ?_⟩) ?_ ?_
                           rotate_left; (focus intro w'; go_simp; with_reducible rfl); rotate_left; (focus simp only [Act.put, List.setIfInBounds_toArray, List.set_cons_zero, List.set_cons_succ, i64_w, i32_w]; rfl)
                           refine pure_ (i := 26) (N := some 140) (v := ?_) (a' := ?_) (stickfullaw14_FillGreedy.bm 34 134217727) rfl rfl (any_of HT_.out (by kernel_rfl)) (fun _ _ _ h => h) (Or.inl ⟨by rfl, ?_⟩) ?_ ?_
                           rotate_left; (focus intro w'; go_simp; with_reducible rfl); rotate_left; (focus simp only [Act.put, List.setIfInBounds_toArray, List.set_cons_zero, List.set_cons_succ, i64_w, i32_w]; rfl)
                           refine pure_ (i := 27) (N := some 141) (v := ?_) (a' := ?_) (stickfullaw14_FillGreedy.bm 34 268435455) rfl rfl (any_of HT_.out (by kernel_rfl)) (fun _ _ _ h => h) (Or.inl ⟨by rfl, ?_⟩) ?_ ?_
                           rotate_left; (focus intro w'; go_simp; with_reducible rfl); rotate_left; (focus simp only [Act.put, List.setIfInBounds_toArray, List.set_cons_zero, List.set_cons_succ, i64_w, i32_w]; rfl)
                           refine pure_ (i := 28) (N := some 142) (v := ?_) (a' := ?_) (stickfullaw14_FillGreedy.bm 34 536870911) rfl rfl (any_of HT_.out (by kernel_rfl)) (fun _ _ _ h => h) (Or.inl ⟨by rfl, ?_⟩) ?_ ?_
                           rotate_left; (focus intro w'; go_simp; with_reducible rfl); rotate_left; (focus simp only [Act.put, List.setIfInBounds_toArray, List.set_cons_zero, List.set_cons_succ, i64_w, i32_w]; rfl)
                           refine pure_ (i := 29) (N := some 143) (v := ?_) (a' := ?_) (stickfullaw14_FillGreedy.bm 34 1073741823) rfl rfl (any_of HT_.out (by kernel_rfl)) (fun _ _ _ h => h) (Or.inl ⟨by rfl, ?_⟩) ?_ ?_
                           rotate_left; (focus intro w'; go_simp; with_reducible rfl); rotate_left; (focus simp only [Act.put, List.setIfInBounds_toArray, List.set_cons_zero, List.set_cons_succ, i64_w, i32_w]; rfl)
                           refine pure_ (i := 30) (N := some 144) (v := ?_) (a' := ?_) (stickfullaw14_FillGreedy.bm 34 2147483647) rfl rfl (any_of HT_.out (by kernel_rfl)) (fun _ _ _ h => h) (Or.inl ⟨by rfl, ?_⟩) ?_ ?_
                           rotate_left; (focus intro w'; go_simp; with_reducible rfl); rotate_left; (focus simp only [Act.put, List.setIfInBounds_toArray, List.set_cons_zero, List.set_cons_succ, i64_w, i32_w]; rfl)
                           refine take_ (i := 31) (N := some 145) (v := ?_) (a' := ?_) (stickfullaw14_FillGreedy.bm 34 4294967295) rfl rfl (take_ofW HT_.out HW_.out (by kernel_rfl)) (fun _ _ _ h => h) (Or.inl ⟨by rfl, ?_⟩) hHeld ?_ ?_
                           rotate_left; (focus rintro w' ⟨s0, s1, s2, s3, s4, s5⟩; go_simp; with_reducible rfl); rotate_left; (focus simp only [Act.put, List.setIfInBounds_toArray, List.set_cons_zero, List.set_cons_succ, i64_w, i32_w]; rfl)
                           refine pure_ (i := 32) (N := some 146) (v := ?_) (a' := ?_) (stickfullaw14_FillGreedy.bm 34 8589934591) rfl rfl (any_of HT_.out (by kernel_rfl)) (fun _ _ _ h => h) (Or.inl ⟨by rfl, ?_⟩) ?_ ?_
                           rotate_left; (focus intro w'; go_simp; with_reducible rfl); rotate_left; (focus simp only [Act.put, List.setIfInBounds_toArray, List.set_cons_zero, List.set_cons_succ, i64_w, i32_w]; rfl)
                           refine pure_ (i := 33) (N := some 147) (v := ?_) (a' := ?_) (stickfullaw14_FillGreedy.bm 34 17179869183) rfl rfl (any_of HT_.out (by kernel_rfl)) (fun _ _ _ h => h) (Or.inl ⟨by rfl, ?_⟩) ?_ ?_
                           rotate_left; (focus intro w'; go_simp; with_reducible rfl); rotate_left; (focus simp only [Act.put, List.setIfInBounds_toArray, List.set_cons_zero, List.set_cons_succ, i64_w, i32_w]; rfl)
                           refine done_ (done_of HT_.out (by kernel_rfl)) ?_
                           try go_wp2
                           go_roundg kj48
                           case measure => have := HK1.out; have := HK2.out; have := HJ48.out; omega
                           case rel => exact ⟨(wrap64 (x18_2 + 1)), (by first | rfl | (simp; done) | (simp [*]; done)), H', ⟨by have := HK1.out; have := HK2.out; have := HJ48.out; omega⟩, ⟨by (with_reducible repeat (first | apply Kd.R_alloc | apply Kd.R_drewN | apply Kd.R_drew)); exact HO_7.out⟩, ⟨by (with_reducible repeat (first | apply Kd.R_alloc | apply Kd.R_drewN | apply Kd.R_drew)); exact HO_12.out⟩, ⟨by (with_reducible repeat (first | apply Kd.R_alloc | apply Kd.R_drewN | apply Kd.R_drew)); exact HO_13.out⟩, ⟨by (with_reducible repeat (first | refine blk_drewN ?_ _ | refine blk_drew ?_ | refine blk_alloc ?_ _)); exact BK274.out⟩, ⟨by (with_reducible repeat (first | refine blk_drewN ?_ _ | refine blk_drew ?_ | refine blk_alloc ?_ _)); exact BK275.out⟩, ⟨by (with_reducible repeat (first | refine blk_drewN ?_ _ | refine blk_drew ?_ | refine blk_alloc ?_ _)); exact BK282.out⟩, ⟨by (with_reducible repeat (first | refine blk_drewN ?_ _ | refine blk_drew ?_ | refine blk_alloc ?_ _)); exact BK285.out⟩, ⟨by repeat (first | (with_reducible first | exact HB.out | apply below_alloc | apply pw_below_drewN | apply below_drew1 | refine below_set ?_ GE274.out | refine below_set ?_ GE275.out | refine below_set ?_ GE282.out | refine below_set ?_ GE285.out) | exact HB.out)⟩⟩
                         ·rw [if_neg c66] at H
                          have c66b0 : (t305 == 0) = false := beq_eq_false_iff_ne.mpr c66
                          have c66b1 : (t305 != 0) = true := bne_iff_ne.mpr c66
                          have H' := Aside0.mk H
                          clear H
                          try go_wp2
                          replace HO_7 := Aside0.mk (Kd.R_drew HO_7.out)
                          replace HO_12 := Aside0.mk (Kd.R_drew HO_12.out)
                          replace HO_13 := Aside0.mk (Kd.R_drew HO_13.out)
                          replace BK274 := Aside0.mk (blk_drew BK274.out)
                          replace BK275 := Aside0.mk (blk_drew BK275.out)
                          replace BK282 := Aside0.mk (blk_drew BK282.out)
                          replace BK285 := Aside0.mk (blk_drew BK285.out)
                          replace HB := Aside0.mk (below_drew1 HB.out)
                          have p307 : 0 ≤ (x18_2 : Int) := of_decide_eq_true (by first | (with_reducible assumption) | assumption)
                          have q307 : x18_2 < (t286.length : Int) := of_decide_eq_true (by first | (with_reducible assumption) | assumption)
                          obtain ⟨ad307, e307, hx307_0⟩ := Kd.at_int (Kd.R_reads' HO_12.out).2.2 x18_2 p307 q307
                          obtain rfl : ad299 = ad307 := (by injection e307)
                          replace p307 := eq_true p307
                          replace q307 := eq_true q307
                          refine start_ (n := 34) (S := fun w' => w'.cell? ⟨gb285, 0, none⟩ = some (.int .i64 ((rd_T35 t277 x10_1).f0)) ∧ w'.cell? ⟨gb285, 1, none⟩ = some (.int .i64 ((rd_T35 t277 x10_1).f1)) ∧ w'.cell? ⟨gb285, 2, none⟩ = some (.bool ((rd_T35 t277 x10_1).f2)) ∧ w'.cell? (ad299.add (x18_2).toNat) = some (.int .i64 (rd t286 x18_2))) (ds := []) (stickfullaw14_FillGreedy.bm 34 0) (by kernel_rfl) rfl rfl ⟨bc BK285 0, bc BK285 1, bc BK285 2, hx307_0⟩ (fun hHeld => ?_); refine with_tabW stickfullaw14_FillGreedy.tab22 stickfullaw14_FillGreedy.bits22 (fun HT_ HW_ => ?_)
                          generalize wc.drew = w69 at HO_7 HO_12 HO_13 BK274 BK275 BK282 BK285 HB hx307_0 hHeld ⊢
                          refine pure_ (i := 0) (N := some 114) (v := ?_) (a' := ?_) (stickfullaw14_FillGreedy.bm 34 1) rfl rfl (any_of HT_.out (by kernel_rfl)) (fun _ _ _ h => h) (Or.inl ⟨by rfl, ?_⟩) ?_ ?_
                          rotate_left; (focus intro w'; go_simp; with_reducible rfl); rotate_left; (focus simp only [Act.put, List.setIfInBounds_toArray, List.set_cons_zero, List.set_cons_succ, i64_w, i32_w]; rfl)
                          refine pure_ (i := 1) (N := some 115) (v := ?_) (a' := ?_) (stickfullaw14_FillGreedy.bm 34 3) rfl rfl (any_of HT_.out (by kernel_rfl)) (fun _ _ _ h => h) (Or.inl ⟨by rfl, ?_⟩) ?_ ?_
                          rotate_left; (focus intro w'; go_simp; with_reducible rfl); rotate_left; (focus simp only [Act.put, List.setIfInBounds_toArray, List.set_cons_zero, List.set_cons_succ, i64_w, i32_w]; rfl)
                          refine pure_ (i := 2) (N := some 116) (v := ?_) (a' := ?_) (stickfullaw14_FillGreedy.bm 34 7) rfl rfl (any_of HT_.out (by kernel_rfl)) (fun _ _ _ h => h) (Or.inl ⟨by rfl, ?_⟩) ?_ ?_
                          rotate_left; (focus intro w'; go_simp; with_reducible rfl); rotate_left; (focus simp only [Act.put, List.setIfInBounds_toArray, List.set_cons_zero, List.set_cons_succ, i64_w, i32_w]; rfl)
                          refine pure_ (i := 4) (N := some 118) (v := ?_) (a' := ?_) (stickfullaw14_FillGreedy.bm 34 23) rfl rfl (any_of HT_.out (by kernel_rfl)) (fun _ _ _ h => h) (Or.inl ⟨by rfl, ?_⟩) ?_ ?_
                          rotate_left; (focus intro w'; go_simp; with_reducible rfl); rotate_left; (focus simp only [Act.put, List.setIfInBounds_toArray, List.set_cons_zero, List.set_cons_succ, i64_w, i32_w]; rfl)
                          refine take_ (i := 3) (N := some 117) (v := ?_) (a' := ?_) (stickfullaw14_FillGreedy.bm 34 31) rfl rfl (take_ofW HT_.out HW_.out (by kernel_rfl)) (fun _ _ _ h => h) (Or.inl ⟨by rfl, ?_⟩) hHeld ?_ ?_
                          rotate_left; (focus rintro w' ⟨s0, s1, s2, s3⟩; go_simp; with_reducible rfl); rotate_left; (focus simp only [Act.put, List.setIfInBounds_toArray, List.set_cons_zero, List.set_cons_succ, i64_w, i32_w]; rfl)
                          refine take_ (i := 5) (N := some 119) (v := ?_) (a' := ?_) (stickfullaw14_FillGreedy.bm 34 63) rfl rfl (take_ofW HT_.out HW_.out (by kernel_rfl)) (fun _ _ _ h => h) (Or.inl ⟨by rfl, ?_⟩) hHeld ?_ ?_
                          rotate_left; (focus rintro w' ⟨s0, s1, s2, s3⟩; go_simp; with_reducible rfl); rotate_left; (focus simp only [Act.put, List.setIfInBounds_toArray, List.set_cons_zero, List.set_cons_succ, i64_w, i32_w]; rfl)
                          refine pure_ (i := 6) (N := some 120) (v := ?_) (a' := ?_) (stickfullaw14_FillGreedy.bm 34 127) rfl rfl (any_of HT_.out (by kernel_rfl)) (fun _ _ _ h => h) (Or.inl ⟨by rfl, ?_⟩) ?_ ?_
                          rotate_left; (focus intro w'; go_simp; with_reducible rfl); rotate_left; (focus simp only [Act.put, List.setIfInBounds_toArray, List.set_cons_zero, List.set_cons_succ, i64_w, i32_w]; rfl)
                          refine pure_ (i := 7) (N := some 121) (v := ?_) (a' := ?_) (stickfullaw14_FillGreedy.bm 34 255) rfl rfl (any_of HT_.out (by kernel_rfl)) (fun _ _ _ h => h) (Or.inl ⟨by rfl, ?_⟩) ?_ ?_
                          rotate_left; (focus intro w'; go_simp; with_reducible rfl); rotate_left; (focus simp only [Act.put, List.setIfInBounds_toArray, List.set_cons_zero, List.set_cons_succ, i64_w, i32_w]; rfl)
                          refine pure_ (i := 8) (N := some 122) (v := ?_) (a' := ?_) (stickfullaw14_FillGreedy.bm 34 511) rfl rfl (any_of HT_.out (by kernel_rfl)) (fun _ _ _ h => h) (Or.inl ⟨by rfl, ?_⟩) ?_ ?_
                          rotate_left; (focus intro w'; go_simp; with_reducible rfl); rotate_left; (focus simp only [Act.put, List.setIfInBounds_toArray, List.set_cons_zero, List.set_cons_succ, i64_w, i32_w]; rfl)
                          refine pure_ (i := 9) (N := some 123) (v := ?_) (a' := ?_) (stickfullaw14_FillGreedy.bm 34 1023) rfl rfl (any_of HT_.out (by kernel_rfl)) (fun _ _ _ h => h) (Or.inl ⟨by rfl, ?_⟩) ?_ ?_
                          rotate_left; (focus intro w'; go_simp; with_reducible rfl); rotate_left; (focus simp only [Act.put, List.setIfInBounds_toArray, List.set_cons_zero, List.set_cons_succ, i64_w, i32_w]; rfl)
                          refine pure_ (i := 10) (N := some 124) (v := ?_) (a' := ?_) (stickfullaw14_FillGreedy.bm 34 2047) rfl rfl (any_of HT_.out (by kernel_rfl)) (fun _ _ _ h => h) (Or.inl ⟨by rfl, ?_⟩) ?_ ?_
                          rotate_left; (focus intro w'; go_simp; with_reducible rfl); rotate_left; (focus simp only [Act.put, List.setIfInBounds_toArray, List.set_cons_zero, List.set_cons_succ, i64_w, i32_w]; rfl)
                          refine pure_ (i := 11) (N := some 125) (v := undef) (a' := ?_) (stickfullaw14_FillGreedy.bm 34 4095) rfl rfl (any_of HT_.out (by kernel_rfl)) (fun _ _ _ h => h) (Or.inr ⟨by rfl, rfl⟩) ?_ ?_
                          rotate_left; (focus simp only [Act.put, List.setIfInBounds_toArray, List.set_cons_zero, List.set_cons_succ, i64_w, i32_w]; rfl)
                          refine pure_ (i := 12) (N := some 126) (v := undef) (a' := ?_) (stickfullaw14_FillGreedy.bm 34 8191) rfl rfl (any_of HT_.out (by kernel_rfl)) (fun _ _ _ h => h) (Or.inr ⟨by rfl, rfl⟩) ?_ ?_
                          rotate_left; (focus simp only [Act.put, List.setIfInBounds_toArray, List.set_cons_zero, List.set_cons_succ, i64_w, i32_w]; rfl)
                          refine pure_ (i := 13) (N := some 127) (v := undef) (a' := ?_) (stickfullaw14_FillGreedy.bm 34 16383) rfl rfl (any_of HT_.out (by kernel_rfl)) (fun _ _ _ h => h) (Or.inr ⟨by rfl, rfl⟩) ?_ ?_
                          rotate_left; (focus simp only [Act.put, List.setIfInBounds_toArray, List.set_cons_zero, List.set_cons_succ, i64_w, i32_w]; rfl)
                          refine pure_ (i := 14) (N := some 128) (v := undef) (a' := ?_) (stickfullaw14_FillGreedy.bm 34 32767) rfl rfl (any_of HT_.out (by kernel_rfl)) (fun _ _ _ h => h) (Or.inr ⟨by rfl, rfl⟩) ?_ ?_
                          rotate_left; (focus simp only [Act.put, List.setIfInBounds_toArray, List.set_cons_zero, List.set_cons_succ, i64_w, i32_w]; rfl)
                          refine pure_ (i := 15) (N := some 129) (v := undef) (a' := ?_) (stickfullaw14_FillGreedy.bm 34 65535) rfl rfl (any_of HT_.out (by kernel_rfl)) (fun _ _ _ h => h) (Or.inr ⟨by rfl, rfl⟩) ?_ ?_
                          rotate_left; (focus simp only [Act.put, List.setIfInBounds_toArray, List.set_cons_zero, List.set_cons_succ, i64_w, i32_w]; rfl)
                          refine pure_ (i := 16) (N := some 130) (v := undef) (a' := ?_) (stickfullaw14_FillGreedy.bm 34 131071) rfl rfl (any_of HT_.out (by kernel_rfl)) (fun _ _ _ h => h) (Or.inr ⟨by rfl, rfl⟩) ?_ ?_
                          rotate_left; (focus simp only [Act.put, List.setIfInBounds_toArray, List.set_cons_zero, List.set_cons_succ, i64_w, i32_w]; rfl)
                          refine pure_ (i := 17) (N := some 131) (v := undef) (a' := ?_) (stickfullaw14_FillGreedy.bm 34 262143) rfl rfl (any_of HT_.out (by kernel_rfl)) (fun _ _ _ h => h) (Or.inr ⟨by rfl, rfl⟩) ?_ ?_
                          rotate_left; (focus simp only [Act.put, List.setIfInBounds_toArray, List.set_cons_zero, List.set_cons_succ, i64_w, i32_w]; rfl)
                          refine pure_ (i := 18) (N := some 132) (v := undef) (a' := ?_) (stickfullaw14_FillGreedy.bm 34 524287) rfl rfl (any_of HT_.out (by kernel_rfl)) (fun _ _ _ h => h) (Or.inr ⟨by rfl, rfl⟩) ?_ ?_
                          rotate_left; (focus simp only [Act.put, List.setIfInBounds_toArray, List.set_cons_zero, List.set_cons_succ, i64_w, i32_w]; rfl)
                          refine pure_ (i := 19) (N := some 133) (v := undef) (a' := ?_) (stickfullaw14_FillGreedy.bm 34 1048575) rfl rfl (any_of HT_.out (by kernel_rfl)) (fun _ _ _ h => h) (Or.inr ⟨by rfl, rfl⟩) ?_ ?_
                          rotate_left; (focus simp only [Act.put, List.setIfInBounds_toArray, List.set_cons_zero, List.set_cons_succ, i64_w, i32_w]; rfl)
                          refine pure_ (i := 20) (N := some 134) (v := undef) (a' := ?_) (stickfullaw14_FillGreedy.bm 34 2097151) rfl rfl (any_of HT_.out (by kernel_rfl)) (fun _ _ _ h => h) (Or.inr ⟨by rfl, rfl⟩) ?_ ?_
                          rotate_left; (focus simp only [Act.put, List.setIfInBounds_toArray, List.set_cons_zero, List.set_cons_succ, i64_w, i32_w]; rfl)
                          refine pure_ (i := 21) (N := some 135) (v := undef) (a' := ?_) (stickfullaw14_FillGreedy.bm 34 4194303) rfl rfl (any_of HT_.out (by kernel_rfl)) (fun _ _ _ h => h) (Or.inr ⟨by rfl, rfl⟩) ?_ ?_
                          rotate_left; (focus simp only [Act.put, List.setIfInBounds_toArray, List.set_cons_zero, List.set_cons_succ, i64_w, i32_w]; rfl)
                          refine pure_ (i := 22) (N := some 136) (v := ?_) (a' := ?_) (stickfullaw14_FillGreedy.bm 34 8388607) rfl rfl (any_of HT_.out (by kernel_rfl)) (fun _ _ _ h => h) (Or.inl ⟨by rfl, ?_⟩) ?_ ?_
                          rotate_left; (focus intro w'; go_simp; with_reducible rfl); rotate_left; (focus simp only [Act.put, List.setIfInBounds_toArray, List.set_cons_zero, List.set_cons_succ, i64_w, i32_w]; rfl)
                          refine pure_ (i := 23) (N := some 137) (v := ?_) (a' := ?_) (stickfullaw14_FillGreedy.bm 34 16777215) rfl rfl (any_of HT_.out (by kernel_rfl)) (fun _ _ _ h => h) (Or.inl ⟨by rfl, ?_⟩) ?_ ?_
                          rotate_left; (focus intro w'; go_simp; with_reducible rfl); rotate_left; (focus simp only [Act.put, List.setIfInBounds_toArray, List.set_cons_zero, List.set_cons_succ, i64_w, i32_w]; rfl)
                          refine pure_ (i := 24) (N := some 138) (v := ?_) (a' := ?_) (stickfullaw14_FillGreedy.bm 34 33554431) rfl rfl (any_of HT_.out (by kernel_rfl)) (fun _ _ _ h => h) (Or.inl ⟨by rfl, ?_⟩) ?_ ?_
                          rotate_left; (focus intro w'; go_simp; with_reducible rfl); rotate_left; (focus simp only [Act.put, List.setIfInBounds_toArray, List.set_cons_zero, List.set_cons_succ, i64_w, i32_w]; rfl)
                          refine pure_ (i := 25) (N := some 139) (v := ?_) (a' := ?_) (stickfullaw14_FillGreedy.bm 34 67108863) rfl rfl (any_of HT_.out (by kernel_rfl)) (fun _ _ _ h => h) (Or.inl ⟨by rfl, ?_⟩) ?_ ?_
                          rotate_left; (focus intro w'; go_simp; with_reducible rfl); rotate_left; (focus simp only [Act.put, List.setIfInBounds_toArray, List.set_cons_zero, List.set_cons_succ, i64_w, i32_w]; rfl)
                          refine pure_ (i := 26) (N := some 140) (v := ?_) (a' := ?_) (stickfullaw14_FillGreedy.bm 34 134217727) rfl rfl (any_of HT_.out (by kernel_rfl)) (fun _ _ _ h => h) (Or.inl ⟨by rfl, ?_⟩) ?_ ?_
                          rotate_left; (focus intro w'; go_simp; with_reducible rfl); rotate_left; (focus simp only [Act.put, List.setIfInBounds_toArray, List.set_cons_zero, List.set_cons_succ, i64_w, i32_w]; rfl)
                          refine pure_ (i := 27) (N := some 141) (v := ?_) (a' := ?_) (stickfullaw14_FillGreedy.bm 34 268435455) rfl rfl (any_of HT_.out (by kernel_rfl)) (fun _ _ _ h => h) (Or.inl ⟨by rfl, ?_⟩) ?_ ?_
                          rotate_left; (focus intro w'; go_simp; with_reducible rfl); rotate_left; (focus simp only [Act.put, List.setIfInBounds_toArray, List.set_cons_zero, List.set_cons_succ, i64_w, i32_w]; rfl)
                          refine pure_ (i := 28) (N := some 142) (v := ?_) (a' := ?_) (stickfullaw14_FillGreedy.bm 34 536870911) rfl rfl (any_of HT_.out (by kernel_rfl)) (fun _ _ _ h => h) (Or.inl ⟨by rfl, ?_⟩) ?_ ?_
                          rotate_left; (focus intro w'; go_simp; with_reducible rfl); rotate_left; (focus simp only [Act.put, List.setIfInBounds_toArray, List.set_cons_zero, List.set_cons_succ, i64_w, i32_w]; rfl)
                          refine pure_ (i := 29) (N := some 143) (v := undef) (a' := ?_) (stickfullaw14_FillGreedy.bm 34 1073741823) rfl rfl (any_of HT_.out (by kernel_rfl)) (fun _ _ _ h => h) (Or.inr ⟨by rfl, rfl⟩) ?_ ?_
                          rotate_left; (focus simp only [Act.put, List.setIfInBounds_toArray, List.set_cons_zero, List.set_cons_succ, i64_w, i32_w]; rfl)
                          refine pure_ (i := 30) (N := some 144) (v := undef) (a' := ?_) (stickfullaw14_FillGreedy.bm 34 2147483647) rfl rfl (any_of HT_.out (by kernel_rfl)) (fun _ _ _ h => h) (Or.inr ⟨by rfl, rfl⟩) ?_ ?_
                          rotate_left; (focus simp only [Act.put, List.setIfInBounds_toArray, List.set_cons_zero, List.set_cons_succ, i64_w, i32_w]; rfl)
                          refine pure_ (i := 31) (N := some 145) (v := undef) (a' := ?_) (stickfullaw14_FillGreedy.bm 34 4294967295) rfl rfl (any_of HT_.out (by kernel_rfl)) (fun _ _ _ h => h) (Or.inr ⟨by rfl, rfl⟩) ?_ ?_
                          rotate_left; (focus simp only [Act.put, List.setIfInBounds_toArray, List.set_cons_zero, List.set_cons_succ, i64_w, i32_w]; rfl)
                          refine pure_ (i := 32) (N := some 146) (v := undef) (a' := ?_) (stickfullaw14_FillGreedy.bm 34 8589934591) rfl rfl (any_of HT_.out (by kernel_rfl)) (fun _ _ _ h => h) (Or.inr ⟨by rfl, rfl⟩) ?_ ?_
                          rotate_left; (focus simp only [Act.put, List.setIfInBounds_toArray, List.set_cons_zero, List.set_cons_succ, i64_w, i32_w]; rfl)
                          refine pure_ (i := 33) (N := some 147) (v := ?_) (a' := ?_) (stickfullaw14_FillGreedy.bm 34 17179869183) rfl rfl (any_of HT_.out (by kernel_rfl)) (fun _ _ _ h => h) (Or.inl ⟨by rfl, ?_⟩) ?_ ?_
                          rotate_left; (focus intro w'; go_simp; with_reducible rfl); rotate_left; (focus simp only [Act.put, List.setIfInBounds_toArray, List.set_cons_zero, List.set_cons_succ, i64_w, i32_w]; rfl)
                          refine done_ (done_of HT_.out (by kernel_rfl)) ?_
                          try go_wp2
                          go_roundg kj48
                          case measure => have := HK1.out; have := HK2.out; have := HJ48.out; omega
                          case rel => exact ⟨(wrap64 (x18_2 + 1)), (by first | rfl | (simp; done) | (simp [*]; done)), H', ⟨by have := HK1.out; have := HK2.out; have := HJ48.out; omega⟩, ⟨by (with_reducible repeat (first | apply Kd.R_alloc | apply Kd.R_drewN | apply Kd.R_drew)); exact HO_7.out⟩, ⟨by (with_reducible repeat (first | apply Kd.R_alloc | apply Kd.R_drewN | apply Kd.R_drew)); exact HO_12.out⟩, ⟨by (with_reducible repeat (first | apply Kd.R_alloc | apply Kd.R_drewN | apply Kd.R_drew)); exact HO_13.out⟩, ⟨by (with_reducible repeat (first | refine blk_drewN ?_ _ | refine blk_drew ?_ | refine blk_alloc ?_ _)); exact BK274.out⟩, ⟨by (with_reducible repeat (first | refine blk_drewN ?_ _ | refine blk_drew ?_ | refine blk_alloc ?_ _)); exact BK275.out⟩, ⟨by (with_reducible repeat (first | refine blk_drewN ?_ _ | refine blk_drew ?_ | refine blk_alloc ?_ _)); exact BK282.out⟩, ⟨by (with_reducible repeat (first | refine blk_drewN ?_ _ | refine blk_drew ?_ | refine blk_alloc ?_ _)); exact BK285.out⟩, ⟨by repeat (first | (with_reducible first | exact HB.out | apply below_alloc | apply pw_below_drewN | apply below_drew1 | refine below_set ?_ GE274.out | refine below_set ?_ GE275.out | refine below_set ?_ GE282.out | refine below_set ?_ GE285.out) | exact HB.out)⟩⟩
                        ·rw [if_neg c65] at H
                         have c65b0 : (x18_2 == 0) = false := beq_eq_false_iff_ne.mpr c65
                         have c65b1 : (x18_2 != 0) = true := bne_iff_ne.mpr c65
                         by_cases c70 : (decide (t297 ≤ x283000_1)) = true
                         ·rw [if_pos c70] at H
                          have c70b0 : (decide (t297 ≤ x283000_1)) = true := c70
                          clear c70
                          obtain ⟨ji71, hji71⟩ : ∃ j_ : Int, (wrap64 (x18_2 - 1)) = j_ := ⟨_, rfl⟩
                          replace H : (if 0 ≤ (ji71) then (if (ji71) < (t286.length : Int) then (if (rd t286 (ji71)) ≤ ((rd_T35 t277 x10_1).f1) then (if t305 = 0 then (if t304 ≤ x283000_1 then (some false) else (stickfullaw14_FillGreedy.l1 kj48 l0 t277 x10_1 t286 t287 (decide (t297 ≤ x283000_1)) (wrap64 (x18_2 + 1)) a2_0 a2_1 x283000_1 x283001_1 ((rd_T35 t277 x10_1).f0) ((rd_T35 t277 x10_1).f1) ((rd_T35 t277 x10_1).f2))) else (stickfullaw14_FillGreedy.l1 kj48 l0 t277 x10_1 t286 t287 (decide (t297 ≤ x283000_1)) (wrap64 (x18_2 + 1)) a2_0 a2_1 x283000_1 x283001_1 ((rd_T35 t277 x10_1).f0) ((rd_T35 t277 x10_1).f1) ((rd_T35 t277 x10_1).f2))) else (stickfullaw14_FillGreedy.l1 kj48 l0 t277 x10_1 t286 t287 (decide (t297 ≤ x283000_1)) (wrap64 (x18_2 + 1)) a2_0 a2_1 x283000_1 x283001_1 ((rd_T35 t277 x10_1).f0) ((rd_T35 t277 x10_1).f1) ((rd_T35 t277 x10_1).f2))) else (none)) else (none)) = some r := by first | (rw [hji71] at H; exact H) | (simp only [hji71] at H ⊢; exact H)
                          have hji71w : (IntKind.i64.wrap (x18_2 - 1)) = ji71 := (i64_w _).trans hji71
                          by_cases c72 : 0 ≤ (ji71)
                          ·rw [if_pos c72] at H
                           have c72b0 : decide (0 ≤ (ji71)) = true := decide_eq_true c72
                           clear c72
                           by_cases c73 : (ji71) < (t286.length : Int)
                           ·rw [if_pos c73] at H
                            have c73b0 : decide ((ji71) < (t286.length : Int)) = true := decide_eq_true c73
                            clear c73
                            by_cases c74 : (rd t286 (ji71)) ≤ ((rd_T35 t277 x10_1).f1)
                            ·rw [if_pos c74] at H
                             have c74b0 : decide ((rd t286 (ji71)) ≤ ((rd_T35 t277 x10_1).f1)) = true := decide_eq_true c74
                             clear c74
                             by_cases c75 : t305 = 0
                             ·rw [if_pos c75] at H
                              have c75b0 : (t305 == 0) = true := beq_iff_eq.mpr c75
                              have c75b1 : (t305 != 0) = false := bne_eq_false_iff_eq.mpr c75
                              clear c75
                              by_cases c76 : t304 ≤ x283000_1
                              ·rw [if_pos c76] at H
                               have c76b0 : decide (t304 ≤ x283000_1) = true := decide_eq_true c76
                               clear c76
                               exact absurd ((Option.some.inj H).trans HR_.out) (by decide)
                              ·rw [if_neg c76] at H
                               have c76b0 : decide (t304 ≤ x283000_1) = false := decide_eq_false c76
                               clear c76
                               have H' := Aside0.mk H
                               clear H
                               try go_wp2
                               replace HO_7 := Aside0.mk (Kd.R_drew HO_7.out)
                               replace HO_12 := Aside0.mk (Kd.R_drew HO_12.out)
                               replace HO_13 := Aside0.mk (Kd.R_drew HO_13.out)
                               replace BK274 := Aside0.mk (blk_drew BK274.out)
                               replace BK275 := Aside0.mk (blk_drew BK275.out)
                               replace BK282 := Aside0.mk (blk_drew BK282.out)
                               replace BK285 := Aside0.mk (blk_drew BK285.out)
                               replace HB := Aside0.mk (below_drew1 HB.out)
                               have p307 : 0 ≤ (x18_2 : Int) := of_decide_eq_true (by first | (with_reducible assumption) | assumption)
                               have q307 : x18_2 < (t286.length : Int) := of_decide_eq_true (by first | (with_reducible assumption) | assumption)
                               obtain ⟨ad307, e307, hx307_0⟩ := Kd.at_int (Kd.R_reads' HO_12.out).2.2 x18_2 p307 q307
                               obtain rfl : ad299 = ad307 := (by injection e307)
                               replace p307 := eq_true p307
                               replace q307 := eq_true q307
                               have p308 : 0 ≤ ((ji71) : Int) := of_decide_eq_true (by first | (with_reducible assumption) | assumption)
                               have q308 : (ji71) < (t286.length : Int) := of_decide_eq_true (by first | (with_reducible assumption) | assumption)
                               obtain ⟨ad308, e308, hx308_0⟩ := Kd.at_int (Kd.R_reads' HO_12.out).2.2 (ji71) p308 q308
                               obtain rfl : ad299 = ad308 := (by injection e308)
                               replace p308 := eq_true p308
                               replace q308 := eq_true q308
                               refine start_ (n := 34) (S := fun w' => w'.cell? ⟨gb285, 0, none⟩ = some (.int .i64 ((rd_T35 t277 x10_1).f0)) ∧ w'.cell? ⟨gb285, 1, none⟩ = some (.int .i64 ((rd_T35 t277 x10_1).f1)) ∧ w'.cell? ⟨gb285, 2, none⟩ = some (.bool ((rd_T35 t277 x10_1).f2)) ∧ w'.cell? ⟨gb282, 0, none⟩ = some (.int .i64 x283000_1) ∧ w'.cell? ⟨gb282, 1, none⟩ = some (.int .i64 x283001_1) ∧ w'.cell? (ad299.add (x18_2).toNat) = some (.int .i64 (rd t286 x18_2)) ∧ w'.cell? (ad299.add ((ji71)).toNat) = some (.int .i64 (rd t286 (ji71)))) (ds := []) (stickfullaw14_FillGreedy.bm 34 0) (by kernel_rfl) rfl rfl ⟨bc BK285 0, bc BK285 1, bc BK285 2, bc BK282 0, bc BK282 1, hx307_0, hx308_0⟩ (fun hHeld => ?_); refine with_tabW stickfullaw14_FillGreedy.tab22 stickfullaw14_FillGreedy.bits22 (fun HT_ HW_ => ?_)
                               generalize wc.drew = w77 at HO_7 HO_12 HO_13 BK274 BK275 BK282 BK285 HB hx307_0 hx308_0 hHeld ⊢
                               refine pure_ (i := 0) (N := some 114) (v := ?_) (a' := ?_) (stickfullaw14_FillGreedy.bm 34 1) rfl rfl (any_of HT_.out (by kernel_rfl)) (fun _ _ _ h => h) (Or.inl ⟨by rfl, ?_⟩) ?_ ?_
                               rotate_left; (focus intro w'; go_simp; with_reducible rfl); rotate_left; (focus simp only [Act.put, List.setIfInBounds_toArray, List.set_cons_zero, List.set_cons_succ, i64_w, i32_w]; rfl)
                               refine pure_ (i := 1) (N := some 115) (v := ?_) (a' := ?_) (stickfullaw14_FillGreedy.bm 34 3) rfl rfl (any_of HT_.out (by kernel_rfl)) (fun _ _ _ h => h) (Or.inl ⟨by rfl, ?_⟩) ?_ ?_
                               rotate_left; (focus intro w'; go_simp; with_reducible rfl); rotate_left; (focus simp only [Act.put, List.setIfInBounds_toArray, List.set_cons_zero, List.set_cons_succ, i64_w, i32_w]; rfl)
                               refine pure_ (i := 2) (N := some 116) (v := ?_) (a' := ?_) (stickfullaw14_FillGreedy.bm 34 7) rfl rfl (any_of HT_.out (by kernel_rfl)) (fun _ _ _ h => h) (Or.inl ⟨by rfl, ?_⟩) ?_ ?_
                               rotate_left; (focus intro w'; go_simp; with_reducible rfl); rotate_left; (focus simp only [Act.put, List.setIfInBounds_toArray, List.set_cons_zero, List.set_cons_succ, i64_w, i32_w]; rfl)
                               refine pure_ (i := 4) (N := some 118) (v := ?_) (a' := ?_) (stickfullaw14_FillGreedy.bm 34 23) rfl rfl (any_of HT_.out (by kernel_rfl)) (fun _ _ _ h => h) (Or.inl ⟨by rfl, ?_⟩) ?_ ?_
                               rotate_left; (focus intro w'; go_simp; with_reducible rfl); rotate_left; (focus simp only [Act.put, List.setIfInBounds_toArray, List.set_cons_zero, List.set_cons_succ, i64_w, i32_w]; rfl)
                               refine take_ (i := 3) (N := some 117) (v := ?_) (a' := ?_) (stickfullaw14_FillGreedy.bm 34 31) rfl rfl (take_ofW HT_.out HW_.out (by kernel_rfl)) (fun _ _ _ h => h) (Or.inl ⟨by rfl, ?_⟩) hHeld ?_ ?_
                               rotate_left; (focus rintro w' ⟨s0, s1, s2, s3, s4, s5, s6⟩; go_simp; with_reducible rfl); rotate_left; (focus simp only [Act.put, List.setIfInBounds_toArray, List.set_cons_zero, List.set_cons_succ, i64_w, i32_w]; rfl)
                               refine take_ (i := 5) (N := some 119) (v := ?_) (a' := ?_) (stickfullaw14_FillGreedy.bm 34 63) rfl rfl (take_ofW HT_.out HW_.out (by kernel_rfl)) (fun _ _ _ h => h) (Or.inl ⟨by rfl, ?_⟩) hHeld ?_ ?_
                               rotate_left; (focus rintro w' ⟨s0, s1, s2, s3, s4, s5, s6⟩; go_simp; with_reducible rfl); rotate_left; (focus simp only [Act.put, List.setIfInBounds_toArray, List.set_cons_zero, List.set_cons_succ, i64_w, i32_w]; rfl)
                               refine pure_ (i := 6) (N := some 120) (v := ?_) (a' := ?_) (stickfullaw14_FillGreedy.bm 34 127) rfl rfl (any_of HT_.out (by kernel_rfl)) (fun _ _ _ h => h) (Or.inl ⟨by rfl, ?_⟩) ?_ ?_
                               rotate_left; (focus intro w'; go_simp; with_reducible rfl); rotate_left; (focus simp only [Act.put, List.setIfInBounds_toArray, List.set_cons_zero, List.set_cons_succ, i64_w, i32_w]; rfl)
                               refine pure_ (i := 7) (N := some 121) (v := ?_) (a' := ?_) (stickfullaw14_FillGreedy.bm 34 255) rfl rfl (any_of HT_.out (by kernel_rfl)) (fun _ _ _ h => h) (Or.inl ⟨by rfl, ?_⟩) ?_ ?_
                               rotate_left; (focus intro w'; go_simp; with_reducible rfl); rotate_left; (focus simp only [Act.put, List.setIfInBounds_toArray, List.set_cons_zero, List.set_cons_succ, i64_w, i32_w]; rfl)
                               refine pure_ (i := 8) (N := some 122) (v := ?_) (a' := ?_) (stickfullaw14_FillGreedy.bm 34 511) rfl rfl (any_of HT_.out (by kernel_rfl)) (fun _ _ _ h => h) (Or.inl ⟨by rfl, ?_⟩) ?_ ?_
                               rotate_left; (focus intro w'; go_simp; with_reducible rfl); rotate_left; (focus simp only [Act.put, List.setIfInBounds_toArray, List.set_cons_zero, List.set_cons_succ, i64_w, i32_w]; rfl)
                               refine pure_ (i := 9) (N := some 123) (v := ?_) (a' := ?_) (stickfullaw14_FillGreedy.bm 34 1023) rfl rfl (any_of HT_.out (by kernel_rfl)) (fun _ _ _ h => h) (Or.inl ⟨by rfl, ?_⟩) ?_ ?_
                               rotate_left; (focus intro w'; go_simp; with_reducible rfl); rotate_left; (focus simp only [Act.put, List.setIfInBounds_toArray, List.set_cons_zero, List.set_cons_succ, i64_w, i32_w]; rfl)
                               refine pure_ (i := 10) (N := some 124) (v := ?_) (a' := ?_) (stickfullaw14_FillGreedy.bm 34 2047) rfl rfl (any_of HT_.out (by kernel_rfl)) (fun _ _ _ h => h) (Or.inl ⟨by rfl, ?_⟩) ?_ ?_
                               rotate_left; (focus intro w'; go_simp; with_reducible rfl); rotate_left; (focus simp only [Act.put, List.setIfInBounds_toArray, List.set_cons_zero, List.set_cons_succ, i64_w, i32_w]; rfl)
                               refine pure_ (i := 11) (N := some 125) (v := ?_) (a' := ?_) (stickfullaw14_FillGreedy.bm 34 4095) rfl rfl (any_of HT_.out (by kernel_rfl)) (fun _ _ _ h => h) (Or.inl ⟨by rfl, ?_⟩) ?_ ?_
                               rotate_left; (focus intro w'; go_simp; with_reducible rfl); rotate_left; (focus simp only [Act.put, List.setIfInBounds_toArray, List.set_cons_zero, List.set_cons_succ, i64_w, i32_w]; rfl)
                               refine pure_ (i := 12) (N := some 126) (v := ?_) (a' := ?_) (stickfullaw14_FillGreedy.bm 34 8191) rfl rfl (any_of HT_.out (by kernel_rfl)) (fun _ _ _ h => h) (Or.inl ⟨by rfl, ?_⟩) ?_ ?_
                               rotate_left; (focus intro w'; go_simp; with_reducible rfl); rotate_left; (focus simp only [Act.put, List.setIfInBounds_toArray, List.set_cons_zero, List.set_cons_succ, i64_w, i32_w]; rfl)
                               refine pure_ (i := 13) (N := some 127) (v := ?_) (a' := ?_) (stickfullaw14_FillGreedy.bm 34 16383) rfl rfl (any_of HT_.out (by kernel_rfl)) (fun _ _ _ h => h) (Or.inl ⟨by rfl, ?_⟩) ?_ ?_
                               rotate_left; (focus intro w'; go_simp; with_reducible rfl); rotate_left; (focus simp only [Act.put, List.setIfInBounds_toArray, List.set_cons_zero, List.set_cons_succ, i64_w, i32_w]; rfl)
                               refine pure_ (i := 14) (N := some 128) (v := ?_) (a' := ?_) (stickfullaw14_FillGreedy.bm 34 32767) rfl rfl (any_of HT_.out (by kernel_rfl)) (fun _ _ _ h => h) (Or.inl ⟨by rfl, ?_⟩) ?_ ?_
                               rotate_left; (focus intro w'; go_simp; with_reducible rfl); rotate_left; (focus simp only [Act.put, List.setIfInBounds_toArray, List.set_cons_zero, List.set_cons_succ, i64_w, i32_w]; rfl)
                               refine pure_ (i := 15) (N := some 129) (v := ?_) (a' := ?_) (stickfullaw14_FillGreedy.bm 34 65535) rfl rfl (any_of HT_.out (by kernel_rfl)) (fun _ _ _ h => h) (Or.inl ⟨by rfl, ?_⟩) ?_ ?_
                               rotate_left; (focus intro w'; go_simp; with_reducible rfl); rotate_left; (focus simp only [Act.put, List.setIfInBounds_toArray, List.set_cons_zero, List.set_cons_succ, i64_w, i32_w]; rfl)
                               refine pure_ (i := 16) (N := some 130) (v := ?_) (a' := ?_) (stickfullaw14_FillGreedy.bm 34 131071) rfl rfl (any_of HT_.out (by kernel_rfl)) (fun _ _ _ h => h) (Or.inl ⟨by rfl, ?_⟩) ?_ ?_
                               rotate_left; (focus intro w'; go_simp; with_reducible rfl); rotate_left; (focus simp only [Act.put, List.setIfInBounds_toArray, List.set_cons_zero, List.set_cons_succ, i64_w, i32_w]; rfl)
                               refine pure_ (i := 18) (N := some 132) (v := ?_) (a' := ?_) (stickfullaw14_FillGreedy.bm 34 393215) rfl rfl (any_of HT_.out (by kernel_rfl)) (fun _ _ _ h => h) (Or.inl ⟨by rfl, ?_⟩) ?_ ?_
                               rotate_left; (focus intro w'; go_simp; with_reducible rfl); rotate_left; (focus simp only [Act.put, List.setIfInBounds_toArray, List.set_cons_zero, List.set_cons_succ, i64_w, i32_w]; rfl)
                               refine take_ (i := 17) (N := some 131) (v := ?_) (a' := ?_) (stickfullaw14_FillGreedy.bm 34 524287) rfl rfl (take_ofW HT_.out HW_.out (by kernel_rfl)) (fun _ _ _ h => h) (Or.inl ⟨by rfl, ?_⟩) hHeld ?_ ?_
                               rotate_left; (focus rintro w' ⟨s0, s1, s2, s3, s4, s5, s6⟩; go_simp; with_reducible rfl); rotate_left; (focus simp only [Act.put, List.setIfInBounds_toArray, List.set_cons_zero, List.set_cons_succ, i64_w, i32_w]; rfl)
                               refine take_ (i := 19) (N := some 133) (v := ?_) (a' := ?_) (stickfullaw14_FillGreedy.bm 34 1048575) rfl rfl (take_ofW HT_.out HW_.out (by kernel_rfl)) (fun _ _ _ h => h) (Or.inl ⟨by rfl, ?_⟩) hHeld ?_ ?_
                               rotate_left; (focus rintro w' ⟨s0, s1, s2, s3, s4, s5, s6⟩; go_simp; with_reducible rfl); rotate_left; (focus simp only [Act.put, List.setIfInBounds_toArray, List.set_cons_zero, List.set_cons_succ, i64_w, i32_w]; rfl)
                               refine pure_ (i := 20) (N := some 134) (v := ?_) (a' := ?_) (stickfullaw14_FillGreedy.bm 34 2097151) rfl rfl (any_of HT_.out (by kernel_rfl)) (fun _ _ _ h => h) (Or.inl ⟨by rfl, ?_⟩) ?_ ?_
                               rotate_left; (focus intro w'; go_simp; with_reducible rfl); rotate_left; (focus simp only [Act.put, List.setIfInBounds_toArray, List.set_cons_zero, List.set_cons_succ, i64_w, i32_w]; rfl)
                               refine pure_ (i := 21) (N := some 135) (v := ?_) (a' := ?_) (stickfullaw14_FillGreedy.bm 34 4194303) rfl rfl (any_of HT_.out (by kernel_rfl)) (fun _ _ _ h => h) (Or.inl ⟨by rfl, ?_⟩) ?_ ?_
                               rotate_left; (focus intro w'; go_simp; with_reducible rfl); rotate_left; (focus simp only [Act.put, List.setIfInBounds_toArray, List.set_cons_zero, List.set_cons_succ, i64_w, i32_w]; rfl)
                               refine pure_ (i := 22) (N := some 136) (v := ?_) (a' := ?_) (stickfullaw14_FillGreedy.bm 34 8388607) rfl rfl (any_of HT_.out (by kernel_rfl)) (fun _ _ _ h => h) (Or.inl ⟨by rfl, ?_⟩) ?_ ?_
                               rotate_left; (focus intro w'; go_simp; with_reducible rfl); rotate_left; (focus simp only [Act.put, List.setIfInBounds_toArray, List.set_cons_zero, List.set_cons_succ, i64_w, i32_w]; rfl)
                               refine pure_ (i := 23) (N := some 137) (v := ?_) (a' := ?_) (stickfullaw14_FillGreedy.bm 34 16777215) rfl rfl (any_of HT_.out (by kernel_rfl)) (fun _ _ _ h => h) (Or.inl ⟨by rfl, ?_⟩) ?_ ?_
                               rotate_left; (focus intro w'; go_simp; with_reducible rfl); rotate_left; (focus simp only [Act.put, List.setIfInBounds_toArray, List.set_cons_zero, List.set_cons_succ, i64_w, i32_w]; rfl)
                               refine pure_ (i := 24) (N := some 138) (v := ?_) (a' := ?_) (stickfullaw14_FillGreedy.bm 34 33554431) rfl rfl (any_of HT_.out (by kernel_rfl)) (fun _ _ _ h => h) (Or.inl ⟨by rfl, ?_⟩) ?_ ?_
                               rotate_left; (focus intro w'; go_simp; with_reducible rfl); rotate_left; (focus simp only [Act.put, List.setIfInBounds_toArray, List.set_cons_zero, List.set_cons_succ, i64_w, i32_w]; rfl)
                               refine pure_ (i := 25) (N := some 139) (v := ?_) (a' := ?_) (stickfullaw14_FillGreedy.bm 34 67108863) rfl rfl (any_of HT_.out (by kernel_rfl)) (fun _ _ _ h => h) (Or.inl ⟨by rfl, ?_⟩) ?_ ?_
                               rotate_left; (focus intro w'; go_simp; with_reducible rfl); rotate_left; (focus simp only [Act.put, List.setIfInBounds_toArray, List.set_cons_zero, List.set_cons_succ, i64_w, i32_w]; rfl)
                               refine pure_ (i := 26) (N := some 140) (v := ?_) (a' := ?_) (stickfullaw14_FillGreedy.bm 34 134217727) rfl rfl (any_of HT_.out (by kernel_rfl)) (fun _ _ _ h => h) (Or.inl ⟨by rfl, ?_⟩) ?_ ?_
                               rotate_left; (focus intro w'; go_simp; with_reducible rfl); rotate_left; (focus simp only [Act.put, List.setIfInBounds_toArray, List.set_cons_zero, List.set_cons_succ, i64_w, i32_w]; rfl)
                               refine pure_ (i := 27) (N := some 141) (v := ?_) (a' := ?_) (stickfullaw14_FillGreedy.bm 34 268435455) rfl rfl (any_of HT_.out (by kernel_rfl)) (fun _ _ _ h => h) (Or.inl ⟨by rfl, ?_⟩) ?_ ?_
                               rotate_left; (focus intro w'; go_simp; with_reducible rfl); rotate_left; (focus simp only [Act.put, List.setIfInBounds_toArray, List.set_cons_zero, List.set_cons_succ, i64_w, i32_w]; rfl)
                               refine pure_ (i := 28) (N := some 142) (v := ?_) (a' := ?_) (stickfullaw14_FillGreedy.bm 34 536870911) rfl rfl (any_of HT_.out (by kernel_rfl)) (fun _ _ _ h => h) (Or.inl ⟨by rfl, ?_⟩) ?_ ?_
                               rotate_left; (focus intro w'; go_simp; with_reducible rfl); rotate_left; (focus simp only [Act.put, List.setIfInBounds_toArray, List.set_cons_zero, List.set_cons_succ, i64_w, i32_w]; rfl)
                               refine pure_ (i := 29) (N := some 143) (v := ?_) (a' := ?_) (stickfullaw14_FillGreedy.bm 34 1073741823) rfl rfl (any_of HT_.out (by kernel_rfl)) (fun _ _ _ h => h) (Or.inl ⟨by rfl, ?_⟩) ?_ ?_
                               rotate_left; (focus intro w'; go_simp; with_reducible rfl); rotate_left; (focus simp only [Act.put, List.setIfInBounds_toArray, List.set_cons_zero, List.set_cons_succ, i64_w, i32_w]; rfl)
                               refine pure_ (i := 30) (N := some 144) (v := ?_) (a' := ?_) (stickfullaw14_FillGreedy.bm 34 2147483647) rfl rfl (any_of HT_.out (by kernel_rfl)) (fun _ _ _ h => h) (Or.inl ⟨by rfl, ?_⟩) ?_ ?_
                               rotate_left; (focus intro w'; go_simp; with_reducible rfl); rotate_left; (focus simp only [Act.put, List.setIfInBounds_toArray, List.set_cons_zero, List.set_cons_succ, i64_w, i32_w]; rfl)
                               refine take_ (i := 31) (N := some 145) (v := ?_) (a' := ?_) (stickfullaw14_FillGreedy.bm 34 4294967295) rfl rfl (take_ofW HT_.out HW_.out (by kernel_rfl)) (fun _ _ _ h => h) (Or.inl ⟨by rfl, ?_⟩) hHeld ?_ ?_
                               rotate_left; (focus rintro w' ⟨s0, s1, s2, s3, s4, s5, s6⟩; go_simp; with_reducible rfl); rotate_left; (focus simp only [Act.put, List.setIfInBounds_toArray, List.set_cons_zero, List.set_cons_succ, i64_w, i32_w]; rfl)
                               refine pure_ (i := 32) (N := some 146) (v := ?_) (a' := ?_) (stickfullaw14_FillGreedy.bm 34 8589934591) rfl rfl (any_of HT_.out (by kernel_rfl)) (fun _ _ _ h => h) (Or.inl ⟨by rfl, ?_⟩) ?_ ?_
                               rotate_left; (focus intro w'; go_simp; with_reducible rfl); rotate_left; (focus simp only [Act.put, List.setIfInBounds_toArray, List.set_cons_zero, List.set_cons_succ, i64_w, i32_w]; rfl)
                               refine pure_ (i := 33) (N := some 147) (v := ?_) (a' := ?_) (stickfullaw14_FillGreedy.bm 34 17179869183) rfl rfl (any_of HT_.out (by kernel_rfl)) (fun _ _ _ h => h) (Or.inl ⟨by rfl, ?_⟩) ?_ ?_
                               rotate_left; (focus intro w'; go_simp; with_reducible rfl); rotate_left; (focus simp only [Act.put, List.setIfInBounds_toArray, List.set_cons_zero, List.set_cons_succ, i64_w, i32_w]; rfl)
                               refine done_ (done_of HT_.out (by kernel_rfl)) ?_
                               try go_wp2
                               refine Handed.intro kj48 ?measure ?_; rotate_left; go_step; (repeat apply Exists.intro); refine ⟨?rel, ?eq_⟩
                               case eq_ => first | rfl | rw [c70b0] | simp only [c70b0]
                               case measure => have := HK1.out; have := HK2.out; have := HJ48.out; omega
                               case rel => exact ⟨(wrap64 (x18_2 + 1)), (by first | rfl | (simp; done) | (simp [*]; done)), H', ⟨by have := HK1.out; have := HK2.out; have := HJ48.out; omega⟩, ⟨by (with_reducible repeat (first | apply Kd.R_alloc | apply Kd.R_drewN | apply Kd.R_drew)); exact HO_7.out⟩, ⟨by (with_reducible repeat (first | apply Kd.R_alloc | apply Kd.R_drewN | apply Kd.R_drew)); exact HO_12.out⟩, ⟨by (with_reducible repeat (first | apply Kd.R_alloc | apply Kd.R_drewN | apply Kd.R_drew)); exact HO_13.out⟩, ⟨by (with_reducible repeat (first | refine blk_drewN ?_ _ | refine blk_drew ?_ | refine blk_alloc ?_ _)); exact BK274.out⟩, ⟨by (with_reducible repeat (first | refine blk_drewN ?_ _ | refine blk_drew ?_ | refine blk_alloc ?_ _)); exact BK275.out⟩, ⟨by (with_reducible repeat (first | refine blk_drewN ?_ _ | refine blk_drew ?_ | refine blk_alloc ?_ _)); exact BK282.out⟩, ⟨by (with_reducible repeat (first | refine blk_drewN ?_ _ | refine blk_drew ?_ | refine blk_alloc ?_ _)); exact BK285.out⟩, ⟨by repeat (first | (with_reducible first | exact HB.out | apply below_alloc | apply pw_below_drewN | apply below_drew1 | refine below_set ?_ GE274.out | refine below_set ?_ GE275.out | refine below_set ?_ GE282.out | refine below_set ?_ GE285.out) | exact HB.out)⟩⟩
                             ·rw [if_neg c75] at H
                              have c75b0 : (t305 == 0) = false := beq_eq_false_iff_ne.mpr c75
                              have c75b1 : (t305 != 0) = true := bne_iff_ne.mpr c75
                              have H' := Aside0.mk H
                              clear H
                              try go_wp2
                              replace HO_7 := Aside0.mk (Kd.R_drew HO_7.out)
                              replace HO_12 := Aside0.mk (Kd.R_drew HO_12.out)
                              replace HO_13 := Aside0.mk (Kd.R_drew HO_13.out)
                              replace BK274 := Aside0.mk (blk_drew BK274.out)
                              replace BK275 := Aside0.mk (blk_drew BK275.out)
                              replace BK282 := Aside0.mk (blk_drew BK282.out)
                              replace BK285 := Aside0.mk (blk_drew BK285.out)
                              replace HB := Aside0.mk (below_drew1 HB.out)
                              have p307 : 0 ≤ (x18_2 : Int) := of_decide_eq_true (by first | (with_reducible assumption) | assumption)
                              have q307 : x18_2 < (t286.length : Int) := of_decide_eq_true (by first | (with_reducible assumption) | assumption)
                              obtain ⟨ad307, e307, hx307_0⟩ := Kd.at_int (Kd.R_reads' HO_12.out).2.2 x18_2 p307 q307
                              obtain rfl : ad299 = ad307 := (by injection e307)
                              replace p307 := eq_true p307
                              replace q307 := eq_true q307
                              have p308 : 0 ≤ ((ji71) : Int) := of_decide_eq_true (by first | (with_reducible assumption) | assumption)
                              have q308 : (ji71) < (t286.length : Int) := of_decide_eq_true (by first | (with_reducible assumption) | assumption)
                              obtain ⟨ad308, e308, hx308_0⟩ := Kd.at_int (Kd.R_reads' HO_12.out).2.2 (ji71) p308 q308
                              obtain rfl : ad299 = ad308 := (by injection e308)
                              replace p308 := eq_true p308
                              replace q308 := eq_true q308
                              refine start_ (n := 34) (S := fun w' => w'.cell? ⟨gb285, 0, none⟩ = some (.int .i64 ((rd_T35 t277 x10_1).f0)) ∧ w'.cell? ⟨gb285, 1, none⟩ = some (.int .i64 ((rd_T35 t277 x10_1).f1)) ∧ w'.cell? ⟨gb285, 2, none⟩ = some (.bool ((rd_T35 t277 x10_1).f2)) ∧ w'.cell? (ad299.add (x18_2).toNat) = some (.int .i64 (rd t286 x18_2)) ∧ w'.cell? (ad299.add ((ji71)).toNat) = some (.int .i64 (rd t286 (ji71)))) (ds := []) (stickfullaw14_FillGreedy.bm 34 0) (by kernel_rfl) rfl rfl ⟨bc BK285 0, bc BK285 1, bc BK285 2, hx307_0, hx308_0⟩ (fun hHeld => ?_); refine with_tabW stickfullaw14_FillGreedy.tab22 stickfullaw14_FillGreedy.bits22 (fun HT_ HW_ => ?_)
                              generalize wc.drew = w78 at HO_7 HO_12 HO_13 BK274 BK275 BK282 BK285 HB hx307_0 hx308_0 hHeld ⊢
                              refine pure_ (i := 0) (N := some 114) (v := ?_) (a' := ?_) (stickfullaw14_FillGreedy.bm 34 1) rfl rfl (any_of HT_.out (by kernel_rfl)) (fun _ _ _ h => h) (Or.inl ⟨by rfl, ?_⟩) ?_ ?_
                              rotate_left; (focus intro w'; go_simp; with_reducible rfl); rotate_left; (focus simp only [Act.put, List.setIfInBounds_toArray, List.set_cons_zero, List.set_cons_succ, i64_w, i32_w]; rfl)
                              refine pure_ (i := 1) (N := some 115) (v := ?_) (a' := ?_) (stickfullaw14_FillGreedy.bm 34 3) rfl rfl (any_of HT_.out (by kernel_rfl)) (fun _ _ _ h => h) (Or.inl ⟨by rfl, ?_⟩) ?_ ?_
                              rotate_left; (focus intro w'; go_simp; with_reducible rfl); rotate_left; (focus simp only [Act.put, List.setIfInBounds_toArray, List.set_cons_zero, List.set_cons_succ, i64_w, i32_w]; rfl)
                              refine pure_ (i := 2) (N := some 116) (v := ?_) (a' := ?_) (stickfullaw14_FillGreedy.bm 34 7) rfl rfl (any_of HT_.out (by kernel_rfl)) (fun _ _ _ h => h) (Or.inl ⟨by rfl, ?_⟩) ?_ ?_
                              rotate_left; (focus intro w'; go_simp; with_reducible rfl); rotate_left; (focus simp only [Act.put, List.setIfInBounds_toArray, List.set_cons_zero, List.set_cons_succ, i64_w, i32_w]; rfl)
                              refine pure_ (i := 4) (N := some 118) (v := ?_) (a' := ?_) (stickfullaw14_FillGreedy.bm 34 23) rfl rfl (any_of HT_.out (by kernel_rfl)) (fun _ _ _ h => h) (Or.inl ⟨by rfl, ?_⟩) ?_ ?_
                              rotate_left; (focus intro w'; go_simp; with_reducible rfl); rotate_left; (focus simp only [Act.put, List.setIfInBounds_toArray, List.set_cons_zero, List.set_cons_succ, i64_w, i32_w]; rfl)
                              refine take_ (i := 3) (N := some 117) (v := ?_) (a' := ?_) (stickfullaw14_FillGreedy.bm 34 31) rfl rfl (take_ofW HT_.out HW_.out (by kernel_rfl)) (fun _ _ _ h => h) (Or.inl ⟨by rfl, ?_⟩) hHeld ?_ ?_
                              rotate_left; (focus rintro w' ⟨s0, s1, s2, s3, s4⟩; go_simp; with_reducible rfl); rotate_left; (focus simp only [Act.put, List.setIfInBounds_toArray, List.set_cons_zero, List.set_cons_succ, i64_w, i32_w]; rfl)
                              refine take_ (i := 5) (N := some 119) (v := ?_) (a' := ?_) (stickfullaw14_FillGreedy.bm 34 63) rfl rfl (take_ofW HT_.out HW_.out (by kernel_rfl)) (fun _ _ _ h => h) (Or.inl ⟨by rfl, ?_⟩) hHeld ?_ ?_
                              rotate_left; (focus rintro w' ⟨s0, s1, s2, s3, s4⟩; go_simp; with_reducible rfl); rotate_left; (focus simp only [Act.put, List.setIfInBounds_toArray, List.set_cons_zero, List.set_cons_succ, i64_w, i32_w]; rfl)
                              refine pure_ (i := 6) (N := some 120) (v := ?_) (a' := ?_) (stickfullaw14_FillGreedy.bm 34 127) rfl rfl (any_of HT_.out (by kernel_rfl)) (fun _ _ _ h => h) (Or.inl ⟨by rfl, ?_⟩) ?_ ?_
                              rotate_left; (focus intro w'; go_simp; with_reducible rfl); rotate_left; (focus simp only [Act.put, List.setIfInBounds_toArray, List.set_cons_zero, List.set_cons_succ, i64_w, i32_w]; rfl)
                              refine pure_ (i := 7) (N := some 121) (v := ?_) (a' := ?_) (stickfullaw14_FillGreedy.bm 34 255) rfl rfl (any_of HT_.out (by kernel_rfl)) (fun _ _ _ h => h) (Or.inl ⟨by rfl, ?_⟩) ?_ ?_
                              rotate_left; (focus intro w'; go_simp; with_reducible rfl); rotate_left; (focus simp only [Act.put, List.setIfInBounds_toArray, List.set_cons_zero, List.set_cons_succ, i64_w, i32_w]; rfl)
                              refine pure_ (i := 8) (N := some 122) (v := ?_) (a' := ?_) (stickfullaw14_FillGreedy.bm 34 511) rfl rfl (any_of HT_.out (by kernel_rfl)) (fun _ _ _ h => h) (Or.inl ⟨by rfl, ?_⟩) ?_ ?_
                              rotate_left; (focus intro w'; go_simp; with_reducible rfl); rotate_left; (focus simp only [Act.put, List.setIfInBounds_toArray, List.set_cons_zero, List.set_cons_succ, i64_w, i32_w]; rfl)
                              refine pure_ (i := 9) (N := some 123) (v := ?_) (a' := ?_) (stickfullaw14_FillGreedy.bm 34 1023) rfl rfl (any_of HT_.out (by kernel_rfl)) (fun _ _ _ h => h) (Or.inl ⟨by rfl, ?_⟩) ?_ ?_
                              rotate_left; (focus intro w'; go_simp; with_reducible rfl); rotate_left; (focus simp only [Act.put, List.setIfInBounds_toArray, List.set_cons_zero, List.set_cons_succ, i64_w, i32_w]; rfl)
                              refine pure_ (i := 10) (N := some 124) (v := ?_) (a' := ?_) (stickfullaw14_FillGreedy.bm 34 2047) rfl rfl (any_of HT_.out (by kernel_rfl)) (fun _ _ _ h => h) (Or.inl ⟨by rfl, ?_⟩) ?_ ?_
                              rotate_left; (focus intro w'; go_simp; with_reducible rfl); rotate_left; (focus simp only [Act.put, List.setIfInBounds_toArray, List.set_cons_zero, List.set_cons_succ, i64_w, i32_w]; rfl)
                              refine pure_ (i := 11) (N := some 125) (v := ?_) (a' := ?_) (stickfullaw14_FillGreedy.bm 34 4095) rfl rfl (any_of HT_.out (by kernel_rfl)) (fun _ _ _ h => h) (Or.inl ⟨by rfl, ?_⟩) ?_ ?_
                              rotate_left; (focus intro w'; go_simp; with_reducible rfl); rotate_left; (focus simp only [Act.put, List.setIfInBounds_toArray, List.set_cons_zero, List.set_cons_succ, i64_w, i32_w]; rfl)
                              refine pure_ (i := 12) (N := some 126) (v := ?_) (a' := ?_) (stickfullaw14_FillGreedy.bm 34 8191) rfl rfl (any_of HT_.out (by kernel_rfl)) (fun _ _ _ h => h) (Or.inl ⟨by rfl, ?_⟩) ?_ ?_
                              rotate_left; (focus intro w'; go_simp; with_reducible rfl); rotate_left; (focus simp only [Act.put, List.setIfInBounds_toArray, List.set_cons_zero, List.set_cons_succ, i64_w, i32_w]; rfl)
                              refine pure_ (i := 13) (N := some 127) (v := ?_) (a' := ?_) (stickfullaw14_FillGreedy.bm 34 16383) rfl rfl (any_of HT_.out (by kernel_rfl)) (fun _ _ _ h => h) (Or.inl ⟨by rfl, ?_⟩) ?_ ?_
                              rotate_left; (focus intro w'; go_simp; with_reducible rfl); rotate_left; (focus simp only [Act.put, List.setIfInBounds_toArray, List.set_cons_zero, List.set_cons_succ, i64_w, i32_w]; rfl)
                              refine pure_ (i := 14) (N := some 128) (v := ?_) (a' := ?_) (stickfullaw14_FillGreedy.bm 34 32767) rfl rfl (any_of HT_.out (by kernel_rfl)) (fun _ _ _ h => h) (Or.inl ⟨by rfl, ?_⟩) ?_ ?_
                              rotate_left; (focus intro w'; go_simp; with_reducible rfl); rotate_left; (focus simp only [Act.put, List.setIfInBounds_toArray, List.set_cons_zero, List.set_cons_succ, i64_w, i32_w]; rfl)
                              refine pure_ (i := 15) (N := some 129) (v := ?_) (a' := ?_) (stickfullaw14_FillGreedy.bm 34 65535) rfl rfl (any_of HT_.out (by kernel_rfl)) (fun _ _ _ h => h) (Or.inl ⟨by rfl, ?_⟩) ?_ ?_
                              rotate_left; (focus intro w'; go_simp; with_reducible rfl); rotate_left; (focus simp only [Act.put, List.setIfInBounds_toArray, List.set_cons_zero, List.set_cons_succ, i64_w, i32_w]; rfl)
                              refine pure_ (i := 16) (N := some 130) (v := ?_) (a' := ?_) (stickfullaw14_FillGreedy.bm 34 131071) rfl rfl (any_of HT_.out (by kernel_rfl)) (fun _ _ _ h => h) (Or.inl ⟨by rfl, ?_⟩) ?_ ?_
                              rotate_left; (focus intro w'; go_simp; with_reducible rfl); rotate_left; (focus simp only [Act.put, List.setIfInBounds_toArray, List.set_cons_zero, List.set_cons_succ, i64_w, i32_w]; rfl)
                              refine pure_ (i := 18) (N := some 132) (v := ?_) (a' := ?_) (stickfullaw14_FillGreedy.bm 34 393215) rfl rfl (any_of HT_.out (by kernel_rfl)) (fun _ _ _ h => h) (Or.inl ⟨by rfl, ?_⟩) ?_ ?_
                              rotate_left; (focus intro w'; go_simp; with_reducible rfl); rotate_left; (focus simp only [Act.put, List.setIfInBounds_toArray, List.set_cons_zero, List.set_cons_succ, i64_w, i32_w]; rfl)
                              refine take_ (i := 17) (N := some 131) (v := ?_) (a' := ?_) (stickfullaw14_FillGreedy.bm 34 524287) rfl rfl (take_ofW HT_.out HW_.out (by kernel_rfl)) (fun _ _ _ h => h) (Or.inl ⟨by rfl, ?_⟩) hHeld ?_ ?_
                              rotate_left; (focus rintro w' ⟨s0, s1, s2, s3, s4⟩; go_simp; with_reducible rfl); rotate_left; (focus simp only [Act.put, List.setIfInBounds_toArray, List.set_cons_zero, List.set_cons_succ, i64_w, i32_w]; rfl)
                              refine take_ (i := 19) (N := some 133) (v := ?_) (a' := ?_) (stickfullaw14_FillGreedy.bm 34 1048575) rfl rfl (take_ofW HT_.out HW_.out (by kernel_rfl)) (fun _ _ _ h => h) (Or.inl ⟨by rfl, ?_⟩) hHeld ?_ ?_
                              rotate_left; (focus rintro w' ⟨s0, s1, s2, s3, s4⟩; go_simp; with_reducible rfl); rotate_left; (focus simp only [Act.put, List.setIfInBounds_toArray, List.set_cons_zero, List.set_cons_succ, i64_w, i32_w]; rfl)
                              refine pure_ (i := 20) (N := some 134) (v := ?_) (a' := ?_) (stickfullaw14_FillGreedy.bm 34 2097151) rfl rfl (any_of HT_.out (by kernel_rfl)) (fun _ _ _ h => h) (Or.inl ⟨by rfl, ?_⟩) ?_ ?_
                              rotate_left; (focus intro w'; go_simp; with_reducible rfl); rotate_left; (focus simp only [Act.put, List.setIfInBounds_toArray, List.set_cons_zero, List.set_cons_succ, i64_w, i32_w]; rfl)
                              refine pure_ (i := 21) (N := some 135) (v := ?_) (a' := ?_) (stickfullaw14_FillGreedy.bm 34 4194303) rfl rfl (any_of HT_.out (by kernel_rfl)) (fun _ _ _ h => h) (Or.inl ⟨by rfl, ?_⟩) ?_ ?_
                              rotate_left; (focus intro w'; go_simp; with_reducible rfl); rotate_left; (focus simp only [Act.put, List.setIfInBounds_toArray, List.set_cons_zero, List.set_cons_succ, i64_w, i32_w]; rfl)
                              refine pure_ (i := 22) (N := some 136) (v := ?_) (a' := ?_) (stickfullaw14_FillGreedy.bm 34 8388607) rfl rfl (any_of HT_.out (by kernel_rfl)) (fun _ _ _ h => h) (Or.inl ⟨by rfl, ?_⟩) ?_ ?_
                              rotate_left; (focus intro w'; go_simp; with_reducible rfl); rotate_left; (focus simp only [Act.put, List.setIfInBounds_toArray, List.set_cons_zero, List.set_cons_succ, i64_w, i32_w]; rfl)
                              refine pure_ (i := 23) (N := some 137) (v := ?_) (a' := ?_) (stickfullaw14_FillGreedy.bm 34 16777215) rfl rfl (any_of HT_.out (by kernel_rfl)) (fun _ _ _ h => h) (Or.inl ⟨by rfl, ?_⟩) ?_ ?_
                              rotate_left; (focus intro w'; go_simp; with_reducible rfl); rotate_left; (focus simp only [Act.put, List.setIfInBounds_toArray, List.set_cons_zero, List.set_cons_succ, i64_w, i32_w]; rfl)
                              refine pure_ (i := 24) (N := some 138) (v := ?_) (a' := ?_) (stickfullaw14_FillGreedy.bm 34 33554431) rfl rfl (any_of HT_.out (by kernel_rfl)) (fun _ _ _ h => h) (Or.inl ⟨by rfl, ?_⟩) ?_ ?_
                              rotate_left; (focus intro w'; go_simp; with_reducible rfl); rotate_left; (focus simp only [Act.put, List.setIfInBounds_toArray, List.set_cons_zero, List.set_cons_succ, i64_w, i32_w]; rfl)
                              refine pure_ (i := 25) (N := some 139) (v := ?_) (a' := ?_) (stickfullaw14_FillGreedy.bm 34 67108863) rfl rfl (any_of HT_.out (by kernel_rfl)) (fun _ _ _ h => h) (Or.inl ⟨by rfl, ?_⟩) ?_ ?_
                              rotate_left; (focus intro w'; go_simp; with_reducible rfl); rotate_left; (focus simp only [Act.put, List.setIfInBounds_toArray, List.set_cons_zero, List.set_cons_succ, i64_w, i32_w]; rfl)
                              refine pure_ (i := 26) (N := some 140) (v := ?_) (a' := ?_) (stickfullaw14_FillGreedy.bm 34 134217727) rfl rfl (any_of HT_.out (by kernel_rfl)) (fun _ _ _ h => h) (Or.inl ⟨by rfl, ?_⟩) ?_ ?_
                              rotate_left; (focus intro w'; go_simp; with_reducible rfl); rotate_left; (focus simp only [Act.put, List.setIfInBounds_toArray, List.set_cons_zero, List.set_cons_succ, i64_w, i32_w]; rfl)
                              refine pure_ (i := 27) (N := some 141) (v := ?_) (a' := ?_) (stickfullaw14_FillGreedy.bm 34 268435455) rfl rfl (any_of HT_.out (by kernel_rfl)) (fun _ _ _ h => h) (Or.inl ⟨by rfl, ?_⟩) ?_ ?_
                              rotate_left; (focus intro w'; go_simp; with_reducible rfl); rotate_left; (focus simp only [Act.put, List.setIfInBounds_toArray, List.set_cons_zero, List.set_cons_succ, i64_w, i32_w]; rfl)
                              refine pure_ (i := 28) (N := some 142) (v := ?_) (a' := ?_) (stickfullaw14_FillGreedy.bm 34 536870911) rfl rfl (any_of HT_.out (by kernel_rfl)) (fun _ _ _ h => h) (Or.inl ⟨by rfl, ?_⟩) ?_ ?_
                              rotate_left; (focus intro w'; go_simp; with_reducible rfl); rotate_left; (focus simp only [Act.put, List.setIfInBounds_toArray, List.set_cons_zero, List.set_cons_succ, i64_w, i32_w]; rfl)
                              refine pure_ (i := 29) (N := some 143) (v := undef) (a' := ?_) (stickfullaw14_FillGreedy.bm 34 1073741823) rfl rfl (any_of HT_.out (by kernel_rfl)) (fun _ _ _ h => h) (Or.inr ⟨by rfl, rfl⟩) ?_ ?_
                              rotate_left; (focus simp only [Act.put, List.setIfInBounds_toArray, List.set_cons_zero, List.set_cons_succ, i64_w, i32_w]; rfl)
                              refine pure_ (i := 30) (N := some 144) (v := undef) (a' := ?_) (stickfullaw14_FillGreedy.bm 34 2147483647) rfl rfl (any_of HT_.out (by kernel_rfl)) (fun _ _ _ h => h) (Or.inr ⟨by rfl, rfl⟩) ?_ ?_
                              rotate_left; (focus simp only [Act.put, List.setIfInBounds_toArray, List.set_cons_zero, List.set_cons_succ, i64_w, i32_w]; rfl)
                              refine pure_ (i := 31) (N := some 145) (v := undef) (a' := ?_) (stickfullaw14_FillGreedy.bm 34 4294967295) rfl rfl (any_of HT_.out (by kernel_rfl)) (fun _ _ _ h => h) (Or.inr ⟨by rfl, rfl⟩) ?_ ?_
                              rotate_left; (focus simp only [Act.put, List.setIfInBounds_toArray, List.set_cons_zero, List.set_cons_succ, i64_w, i32_w]; rfl)
                              refine pure_ (i := 32) (N := some 146) (v := undef) (a' := ?_) (stickfullaw14_FillGreedy.bm 34 8589934591) rfl rfl (any_of HT_.out (by kernel_rfl)) (fun _ _ _ h => h) (Or.inr ⟨by rfl, rfl⟩) ?_ ?_
                              rotate_left; (focus simp only [Act.put, List.setIfInBounds_toArray, List.set_cons_zero, List.set_cons_succ, i64_w, i32_w]; rfl)
                              refine pure_ (i := 33) (N := some 147) (v := ?_) (a' := ?_) (stickfullaw14_FillGreedy.bm 34 17179869183) rfl rfl (any_of HT_.out (by kernel_rfl)) (fun _ _ _ h => h) (Or.inl ⟨by rfl, ?_⟩) ?_ ?_
                              rotate_left; (focus intro w'; go_simp; with_reducible rfl); rotate_left; (focus simp only [Act.put, List.setIfInBounds_toArray, List.set_cons_zero, List.set_cons_succ, i64_w, i32_w]; rfl)
                              refine done_ (done_of HT_.out (by kernel_rfl)) ?_
                              try go_wp2
                              refine Handed.intro kj48 ?measure ?_; rotate_left; go_step; (repeat apply Exists.intro); refine ⟨?rel, ?eq_⟩
                              case eq_ => first | rfl | rw [c70b0] | simp only [c70b0]
                              case measure => have := HK1.out; have := HK2.out; have := HJ48.out; omega
                              case rel => exact ⟨(wrap64 (x18_2 + 1)), (by first | rfl | (simp; done) | (simp [*]; done)), H', ⟨by have := HK1.out; have := HK2.out; have := HJ48.out; omega⟩, ⟨by (with_reducible repeat (first | apply Kd.R_alloc | apply Kd.R_drewN | apply Kd.R_drew)); exact HO_7.out⟩, ⟨by (with_reducible repeat (first | apply Kd.R_alloc | apply Kd.R_drewN | apply Kd.R_drew)); exact HO_12.out⟩, ⟨by (with_reducible repeat (first | apply Kd.R_alloc | apply Kd.R_drewN | apply Kd.R_drew)); exact HO_13.out⟩, ⟨by (with_reducible repeat (first | refine blk_drewN ?_ _ | refine blk_drew ?_ | refine blk_alloc ?_ _)); exact BK274.out⟩, ⟨by (with_reducible repeat (first | refine blk_drewN ?_ _ | refine blk_drew ?_ | refine blk_alloc ?_ _)); exact BK275.out⟩, ⟨by (with_reducible repeat (first | refine blk_drewN ?_ _ | refine blk_drew ?_ | refine blk_alloc ?_ _)); exact BK282.out⟩, ⟨by (with_reducible repeat (first | refine blk_drewN ?_ _ | refine blk_drew ?_ | refine blk_alloc ?_ _)); exact BK285.out⟩, ⟨by repeat (first | (with_reducible first | exact HB.out | apply below_alloc | apply pw_below_drewN | apply below_drew1 | refine below_set ?_ GE274.out | refine below_set ?_ GE275.out | refine below_set ?_ GE282.out | refine below_set ?_ GE285.out) | exact HB.out)⟩⟩
                            ·rw [if_neg c74] at H
                             have c74b0 : decide ((rd t286 (ji71)) ≤ ((rd_T35 t277 x10_1).f1)) = false := decide_eq_false c74
                             clear c74
                             have H' := Aside0.mk H
                             clear H
                             try go_wp2
                             replace HO_7 := Aside0.mk (Kd.R_drew HO_7.out)
                             replace HO_12 := Aside0.mk (Kd.R_drew HO_12.out)
                             replace HO_13 := Aside0.mk (Kd.R_drew HO_13.out)
                             replace BK274 := Aside0.mk (blk_drew BK274.out)
                             replace BK275 := Aside0.mk (blk_drew BK275.out)
                             replace BK282 := Aside0.mk (blk_drew BK282.out)
                             replace BK285 := Aside0.mk (blk_drew BK285.out)
                             replace HB := Aside0.mk (below_drew1 HB.out)
                             have p307 : 0 ≤ (x18_2 : Int) := of_decide_eq_true (by first | (with_reducible assumption) | assumption)
                             have q307 : x18_2 < (t286.length : Int) := of_decide_eq_true (by first | (with_reducible assumption) | assumption)
                             obtain ⟨ad307, e307, hx307_0⟩ := Kd.at_int (Kd.R_reads' HO_12.out).2.2 x18_2 p307 q307
                             obtain rfl : ad299 = ad307 := (by injection e307)
                             replace p307 := eq_true p307
                             replace q307 := eq_true q307
                             have p308 : 0 ≤ ((ji71) : Int) := of_decide_eq_true (by first | (with_reducible assumption) | assumption)
                             have q308 : (ji71) < (t286.length : Int) := of_decide_eq_true (by first | (with_reducible assumption) | assumption)
                             obtain ⟨ad308, e308, hx308_0⟩ := Kd.at_int (Kd.R_reads' HO_12.out).2.2 (ji71) p308 q308
                             obtain rfl : ad299 = ad308 := (by injection e308)
                             replace p308 := eq_true p308
                             replace q308 := eq_true q308
                             refine start_ (n := 34) (S := fun w' => w'.cell? ⟨gb285, 0, none⟩ = some (.int .i64 ((rd_T35 t277 x10_1).f0)) ∧ w'.cell? ⟨gb285, 1, none⟩ = some (.int .i64 ((rd_T35 t277 x10_1).f1)) ∧ w'.cell? ⟨gb285, 2, none⟩ = some (.bool ((rd_T35 t277 x10_1).f2)) ∧ w'.cell? (ad299.add (x18_2).toNat) = some (.int .i64 (rd t286 x18_2)) ∧ w'.cell? (ad299.add ((ji71)).toNat) = some (.int .i64 (rd t286 (ji71)))) (ds := []) (stickfullaw14_FillGreedy.bm 34 0) (by kernel_rfl) rfl rfl ⟨bc BK285 0, bc BK285 1, bc BK285 2, hx307_0, hx308_0⟩ (fun hHeld => ?_); refine with_tabW stickfullaw14_FillGreedy.tab22 stickfullaw14_FillGreedy.bits22 (fun HT_ HW_ => ?_)
                             generalize wc.drew = w79 at HO_7 HO_12 HO_13 BK274 BK275 BK282 BK285 HB hx307_0 hx308_0 hHeld ⊢
                             refine pure_ (i := 0) (N := some 114) (v := ?_) (a' := ?_) (stickfullaw14_FillGreedy.bm 34 1) rfl rfl (any_of HT_.out (by kernel_rfl)) (fun _ _ _ h => h) (Or.inl ⟨by rfl, ?_⟩) ?_ ?_
                             rotate_left; (focus intro w'; go_simp; with_reducible rfl); rotate_left; (focus simp only [Act.put, List.setIfInBounds_toArray, List.set_cons_zero, List.set_cons_succ, i64_w, i32_w]; rfl)
                             refine pure_ (i := 1) (N := some 115) (v := ?_) (a' := ?_) (stickfullaw14_FillGreedy.bm 34 3) rfl rfl (any_of HT_.out (by kernel_rfl)) (fun _ _ _ h => h) (Or.inl ⟨by rfl, ?_⟩) ?_ ?_
                             rotate_left; (focus intro w'; go_simp; with_reducible rfl); rotate_left; (focus simp only [Act.put, List.setIfInBounds_toArray, List.set_cons_zero, List.set_cons_succ, i64_w, i32_w]; rfl)
                             refine pure_ (i := 2) (N := some 116) (v := ?_) (a' := ?_) (stickfullaw14_FillGreedy.bm 34 7) rfl rfl (any_of HT_.out (by kernel_rfl)) (fun _ _ _ h => h) (Or.inl ⟨by rfl, ?_⟩) ?_ ?_
                             rotate_left; (focus intro w'; go_simp; with_reducible rfl); rotate_left; (focus simp only [Act.put, List.setIfInBounds_toArray, List.set_cons_zero, List.set_cons_succ, i64_w, i32_w]; rfl)
                             refine pure_ (i := 4) (N := some 118) (v := ?_) (a' := ?_) (stickfullaw14_FillGreedy.bm 34 23) rfl rfl (any_of HT_.out (by kernel_rfl)) (fun _ _ _ h => h) (Or.inl ⟨by rfl, ?_⟩) ?_ ?_
                             rotate_left; (focus intro w'; go_simp; with_reducible rfl); rotate_left; (focus simp only [Act.put, List.setIfInBounds_toArray, List.set_cons_zero, List.set_cons_succ, i64_w, i32_w]; rfl)
                             refine take_ (i := 3) (N := some 117) (v := ?_) (a' := ?_) (stickfullaw14_FillGreedy.bm 34 31) rfl rfl (take_ofW HT_.out HW_.out (by kernel_rfl)) (fun _ _ _ h => h) (Or.inl ⟨by rfl, ?_⟩) hHeld ?_ ?_
                             rotate_left; (focus rintro w' ⟨s0, s1, s2, s3, s4⟩; go_simp; with_reducible rfl); rotate_left; (focus simp only [Act.put, List.setIfInBounds_toArray, List.set_cons_zero, List.set_cons_succ, i64_w, i32_w]; rfl)
                             refine take_ (i := 5) (N := some 119) (v := ?_) (a' := ?_) (stickfullaw14_FillGreedy.bm 34 63) rfl rfl (take_ofW HT_.out HW_.out (by kernel_rfl)) (fun _ _ _ h => h) (Or.inl ⟨by rfl, ?_⟩) hHeld ?_ ?_
                             rotate_left; (focus rintro w' ⟨s0, s1, s2, s3, s4⟩; go_simp; with_reducible rfl); rotate_left; (focus simp only [Act.put, List.setIfInBounds_toArray, List.set_cons_zero, List.set_cons_succ, i64_w, i32_w]; rfl)
                             refine pure_ (i := 6) (N := some 120) (v := ?_) (a' := ?_) (stickfullaw14_FillGreedy.bm 34 127) rfl rfl (any_of HT_.out (by kernel_rfl)) (fun _ _ _ h => h) (Or.inl ⟨by rfl, ?_⟩) ?_ ?_
                             rotate_left; (focus intro w'; go_simp; with_reducible rfl); rotate_left; (focus simp only [Act.put, List.setIfInBounds_toArray, List.set_cons_zero, List.set_cons_succ, i64_w, i32_w]; rfl)
                             refine pure_ (i := 7) (N := some 121) (v := ?_) (a' := ?_) (stickfullaw14_FillGreedy.bm 34 255) rfl rfl (any_of HT_.out (by kernel_rfl)) (fun _ _ _ h => h) (Or.inl ⟨by rfl, ?_⟩) ?_ ?_
                             rotate_left; (focus intro w'; go_simp; with_reducible rfl); rotate_left; (focus simp only [Act.put, List.setIfInBounds_toArray, List.set_cons_zero, List.set_cons_succ, i64_w, i32_w]; rfl)
                             refine pure_ (i := 8) (N := some 122) (v := ?_) (a' := ?_) (stickfullaw14_FillGreedy.bm 34 511) rfl rfl (any_of HT_.out (by kernel_rfl)) (fun _ _ _ h => h) (Or.inl ⟨by rfl, ?_⟩) ?_ ?_
                             rotate_left; (focus intro w'; go_simp; with_reducible rfl); rotate_left; (focus simp only [Act.put, List.setIfInBounds_toArray, List.set_cons_zero, List.set_cons_succ, i64_w, i32_w]; rfl)
                             refine pure_ (i := 9) (N := some 123) (v := ?_) (a' := ?_) (stickfullaw14_FillGreedy.bm 34 1023) rfl rfl (any_of HT_.out (by kernel_rfl)) (fun _ _ _ h => h) (Or.inl ⟨by rfl, ?_⟩) ?_ ?_
                             rotate_left; (focus intro w'; go_simp; with_reducible rfl); rotate_left; (focus simp only [Act.put, List.setIfInBounds_toArray, List.set_cons_zero, List.set_cons_succ, i64_w, i32_w]; rfl)
                             refine pure_ (i := 10) (N := some 124) (v := ?_) (a' := ?_) (stickfullaw14_FillGreedy.bm 34 2047) rfl rfl (any_of HT_.out (by kernel_rfl)) (fun _ _ _ h => h) (Or.inl ⟨by rfl, ?_⟩) ?_ ?_
                             rotate_left; (focus intro w'; go_simp; with_reducible rfl); rotate_left; (focus simp only [Act.put, List.setIfInBounds_toArray, List.set_cons_zero, List.set_cons_succ, i64_w, i32_w]; rfl)
                             refine pure_ (i := 11) (N := some 125) (v := ?_) (a' := ?_) (stickfullaw14_FillGreedy.bm 34 4095) rfl rfl (any_of HT_.out (by kernel_rfl)) (fun _ _ _ h => h) (Or.inl ⟨by rfl, ?_⟩) ?_ ?_
                             rotate_left; (focus intro w'; go_simp; with_reducible rfl); rotate_left; (focus simp only [Act.put, List.setIfInBounds_toArray, List.set_cons_zero, List.set_cons_succ, i64_w, i32_w]; rfl)
                             refine pure_ (i := 12) (N := some 126) (v := ?_) (a' := ?_) (stickfullaw14_FillGreedy.bm 34 8191) rfl rfl (any_of HT_.out (by kernel_rfl)) (fun _ _ _ h => h) (Or.inl ⟨by rfl, ?_⟩) ?_ ?_
                             rotate_left; (focus intro w'; go_simp; with_reducible rfl); rotate_left; (focus simp only [Act.put, List.setIfInBounds_toArray, List.set_cons_zero, List.set_cons_succ, i64_w, i32_w]; rfl)
                             refine pure_ (i := 13) (N := some 127) (v := ?_) (a' := ?_) (stickfullaw14_FillGreedy.bm 34 16383) rfl rfl (any_of HT_.out (by kernel_rfl)) (fun _ _ _ h => h) (Or.inl ⟨by rfl, ?_⟩) ?_ ?_
                             rotate_left; (focus intro w'; go_simp; with_reducible rfl); rotate_left; (focus simp only [Act.put, List.setIfInBounds_toArray, List.set_cons_zero, List.set_cons_succ, i64_w, i32_w]; rfl)
                             refine pure_ (i := 14) (N := some 128) (v := ?_) (a' := ?_) (stickfullaw14_FillGreedy.bm 34 32767) rfl rfl (any_of HT_.out (by kernel_rfl)) (fun _ _ _ h => h) (Or.inl ⟨by rfl, ?_⟩) ?_ ?_
                             rotate_left; (focus intro w'; go_simp; with_reducible rfl); rotate_left; (focus simp only [Act.put, List.setIfInBounds_toArray, List.set_cons_zero, List.set_cons_succ, i64_w, i32_w]; rfl)
                             refine pure_ (i := 15) (N := some 129) (v := ?_) (a' := ?_) (stickfullaw14_FillGreedy.bm 34 65535) rfl rfl (any_of HT_.out (by kernel_rfl)) (fun _ _ _ h => h) (Or.inl ⟨by rfl, ?_⟩) ?_ ?_
                             rotate_left; (focus intro w'; go_simp; with_reducible rfl); rotate_left; (focus simp only [Act.put, List.setIfInBounds_toArray, List.set_cons_zero, List.set_cons_succ, i64_w, i32_w]; rfl)
                             refine pure_ (i := 16) (N := some 130) (v := ?_) (a' := ?_) (stickfullaw14_FillGreedy.bm 34 131071) rfl rfl (any_of HT_.out (by kernel_rfl)) (fun _ _ _ h => h) (Or.inl ⟨by rfl, ?_⟩) ?_ ?_
                             rotate_left; (focus intro w'; go_simp; with_reducible rfl); rotate_left; (focus simp only [Act.put, List.setIfInBounds_toArray, List.set_cons_zero, List.set_cons_succ, i64_w, i32_w]; rfl)
                             refine pure_ (i := 18) (N := some 132) (v := ?_) (a' := ?_) (stickfullaw14_FillGreedy.bm 34 393215) rfl rfl (any_of HT_.out (by kernel_rfl)) (fun _ _ _ h => h) (Or.inl ⟨by rfl, ?_⟩) ?_ ?_
                             rotate_left; (focus intro w'; go_simp; with_reducible rfl); rotate_left; (focus simp only [Act.put, List.setIfInBounds_toArray, List.set_cons_zero, List.set_cons_succ, i64_w, i32_w]; rfl)
                             refine take_ (i := 17) (N := some 131) (v := ?_) (a' := ?_) (stickfullaw14_FillGreedy.bm 34 524287) rfl rfl (take_ofW HT_.out HW_.out (by kernel_rfl)) (fun _ _ _ h => h) (Or.inl ⟨by rfl, ?_⟩) hHeld ?_ ?_
                             rotate_left; (focus rintro w' ⟨s0, s1, s2, s3, s4⟩; go_simp; with_reducible rfl); rotate_left; (focus simp only [Act.put, List.setIfInBounds_toArray, List.set_cons_zero, List.set_cons_succ, i64_w, i32_w]; rfl)
                             refine take_ (i := 19) (N := some 133) (v := ?_) (a' := ?_) (stickfullaw14_FillGreedy.bm 34 1048575) rfl rfl (take_ofW HT_.out HW_.out (by kernel_rfl)) (fun _ _ _ h => h) (Or.inl ⟨by rfl, ?_⟩) hHeld ?_ ?_
                             rotate_left; (focus rintro w' ⟨s0, s1, s2, s3, s4⟩; go_simp; with_reducible rfl); rotate_left; (focus simp only [Act.put, List.setIfInBounds_toArray, List.set_cons_zero, List.set_cons_succ, i64_w, i32_w]; rfl)
                             refine pure_ (i := 20) (N := some 134) (v := ?_) (a' := ?_) (stickfullaw14_FillGreedy.bm 34 2097151) rfl rfl (any_of HT_.out (by kernel_rfl)) (fun _ _ _ h => h) (Or.inl ⟨by rfl, ?_⟩) ?_ ?_
                             rotate_left; (focus intro w'; go_simp; with_reducible rfl); rotate_left; (focus simp only [Act.put, List.setIfInBounds_toArray, List.set_cons_zero, List.set_cons_succ, i64_w, i32_w]; rfl)
                             refine pure_ (i := 21) (N := some 135) (v := ?_) (a' := ?_) (stickfullaw14_FillGreedy.bm 34 4194303) rfl rfl (any_of HT_.out (by kernel_rfl)) (fun _ _ _ h => h) (Or.inl ⟨by rfl, ?_⟩) ?_ ?_
                             rotate_left; (focus intro w'; go_simp; with_reducible rfl); rotate_left; (focus simp only [Act.put, List.setIfInBounds_toArray, List.set_cons_zero, List.set_cons_succ, i64_w, i32_w]; rfl)
                             refine pure_ (i := 22) (N := some 136) (v := ?_) (a' := ?_) (stickfullaw14_FillGreedy.bm 34 8388607) rfl rfl (any_of HT_.out (by kernel_rfl)) (fun _ _ _ h => h) (Or.inl ⟨by rfl, ?_⟩) ?_ ?_
                             rotate_left; (focus intro w'; go_simp; with_reducible rfl); rotate_left; (focus simp only [Act.put, List.setIfInBounds_toArray, List.set_cons_zero, List.set_cons_succ, i64_w, i32_w]; rfl)
                             refine pure_ (i := 23) (N := some 137) (v := ?_) (a' := ?_) (stickfullaw14_FillGreedy.bm 34 16777215) rfl rfl (any_of HT_.out (by kernel_rfl)) (fun _ _ _ h => h) (Or.inl ⟨by rfl, ?_⟩) ?_ ?_
                             rotate_left; (focus intro w'; go_simp; with_reducible rfl); rotate_left; (focus simp only [Act.put, List.setIfInBounds_toArray, List.set_cons_zero, List.set_cons_succ, i64_w, i32_w]; rfl)
                             refine pure_ (i := 24) (N := some 138) (v := ?_) (a' := ?_) (stickfullaw14_FillGreedy.bm 34 33554431) rfl rfl (any_of HT_.out (by kernel_rfl)) (fun _ _ _ h => h) (Or.inl ⟨by rfl, ?_⟩) ?_ ?_
                             rotate_left; (focus intro w'; go_simp; with_reducible rfl); rotate_left; (focus simp only [Act.put, List.setIfInBounds_toArray, List.set_cons_zero, List.set_cons_succ, i64_w, i32_w]; rfl)
                             refine pure_ (i := 25) (N := some 139) (v := undef) (a' := ?_) (stickfullaw14_FillGreedy.bm 34 67108863) rfl rfl (any_of HT_.out (by kernel_rfl)) (fun _ _ _ h => h) (Or.inr ⟨by rfl, rfl⟩) ?_ ?_
                             rotate_left; (focus simp only [Act.put, List.setIfInBounds_toArray, List.set_cons_zero, List.set_cons_succ, i64_w, i32_w]; rfl)
                             refine pure_ (i := 26) (N := some 140) (v := undef) (a' := ?_) (stickfullaw14_FillGreedy.bm 34 134217727) rfl rfl (any_of HT_.out (by kernel_rfl)) (fun _ _ _ h => h) (Or.inr ⟨by rfl, rfl⟩) ?_ ?_
                             rotate_left; (focus simp only [Act.put, List.setIfInBounds_toArray, List.set_cons_zero, List.set_cons_succ, i64_w, i32_w]; rfl)
                             refine pure_ (i := 27) (N := some 141) (v := ?_) (a' := ?_) (stickfullaw14_FillGreedy.bm 34 268435455) rfl rfl (any_of HT_.out (by kernel_rfl)) (fun _ _ _ h => h) (Or.inl ⟨by rfl, ?_⟩) ?_ ?_
                             rotate_left; (focus intro w'; go_simp; with_reducible rfl); rotate_left; (focus simp only [Act.put, List.setIfInBounds_toArray, List.set_cons_zero, List.set_cons_succ, i64_w, i32_w]; rfl)
                             refine pure_ (i := 28) (N := some 142) (v := ?_) (a' := ?_) (stickfullaw14_FillGreedy.bm 34 536870911) rfl rfl (any_of HT_.out (by kernel_rfl)) (fun _ _ _ h => h) (Or.inl ⟨by rfl, ?_⟩) ?_ ?_
                             rotate_left; (focus intro w'; go_simp; with_reducible rfl); rotate_left; (focus simp only [Act.put, List.setIfInBounds_toArray, List.set_cons_zero, List.set_cons_succ, i64_w, i32_w]; rfl)
                             refine pure_ (i := 29) (N := some 143) (v := undef) (a' := ?_) (stickfullaw14_FillGreedy.bm 34 1073741823) rfl rfl (any_of HT_.out (by kernel_rfl)) (fun _ _ _ h => h) (Or.inr ⟨by rfl, rfl⟩) ?_ ?_
                             rotate_left; (focus simp only [Act.put, List.setIfInBounds_toArray, List.set_cons_zero, List.set_cons_succ, i64_w, i32_w]; rfl)
                             refine pure_ (i := 30) (N := some 144) (v := undef) (a' := ?_) (stickfullaw14_FillGreedy.bm 34 2147483647) rfl rfl (any_of HT_.out (by kernel_rfl)) (fun _ _ _ h => h) (Or.inr ⟨by rfl, rfl⟩) ?_ ?_
                             rotate_left; (focus simp only [Act.put, List.setIfInBounds_toArray, List.set_cons_zero, List.set_cons_succ, i64_w, i32_w]; rfl)
                             refine pure_ (i := 31) (N := some 145) (v := undef) (a' := ?_) (stickfullaw14_FillGreedy.bm 34 4294967295) rfl rfl (any_of HT_.out (by kernel_rfl)) (fun _ _ _ h => h) (Or.inr ⟨by rfl, rfl⟩) ?_ ?_
                             rotate_left; (focus simp only [Act.put, List.setIfInBounds_toArray, List.set_cons_zero, List.set_cons_succ, i64_w, i32_w]; rfl)
                             refine pure_ (i := 32) (N := some 146) (v := undef) (a' := ?_) (stickfullaw14_FillGreedy.bm 34 8589934591) rfl rfl (any_of HT_.out (by kernel_rfl)) (fun _ _ _ h => h) (Or.inr ⟨by rfl, rfl⟩) ?_ ?_
                             rotate_left; (focus simp only [Act.put, List.setIfInBounds_toArray, List.set_cons_zero, List.set_cons_succ, i64_w, i32_w]; rfl)
                             refine pure_ (i := 33) (N := some 147) (v := ?_) (a' := ?_) (stickfullaw14_FillGreedy.bm 34 17179869183) rfl rfl (any_of HT_.out (by kernel_rfl)) (fun _ _ _ h => h) (Or.inl ⟨by rfl, ?_⟩) ?_ ?_
                             rotate_left; (focus intro w'; go_simp; with_reducible rfl); rotate_left; (focus simp only [Act.put, List.setIfInBounds_toArray, List.set_cons_zero, List.set_cons_succ, i64_w, i32_w]; rfl)
                             refine done_ (done_of HT_.out (by kernel_rfl)) ?_
                             try go_wp2
                             refine Handed.intro kj48 ?measure ?_; rotate_left; go_step; (repeat apply Exists.intro); refine ⟨?rel, ?eq_⟩
                             case eq_ => first | rfl | rw [c70b0] | simp only [c70b0]
                             case measure => have := HK1.out; have := HK2.out; have := HJ48.out; omega
                             case rel => exact ⟨(wrap64 (x18_2 + 1)), (by first | rfl | (simp; done) | (simp [*]; done)), H', ⟨by have := HK1.out; have := HK2.out; have := HJ48.out; omega⟩, ⟨by (with_reducible repeat (first | apply Kd.R_alloc | apply Kd.R_drewN | apply Kd.R_drew)); exact HO_7.out⟩, ⟨by (with_reducible repeat (first | apply Kd.R_alloc | apply Kd.R_drewN | apply Kd.R_drew)); exact HO_12.out⟩, ⟨by (with_reducible repeat (first | apply Kd.R_alloc | apply Kd.R_drewN | apply Kd.R_drew)); exact HO_13.out⟩, ⟨by (with_reducible repeat (first | refine blk_drewN ?_ _ | refine blk_drew ?_ | refine blk_alloc ?_ _)); exact BK274.out⟩, ⟨by (with_reducible repeat (first | refine blk_drewN ?_ _ | refine blk_drew ?_ | refine blk_alloc ?_ _)); exact BK275.out⟩, ⟨by (with_reducible repeat (first | refine blk_drewN ?_ _ | refine blk_drew ?_ | refine blk_alloc ?_ _)); exact BK282.out⟩, ⟨by (with_reducible repeat (first | refine blk_drewN ?_ _ | refine blk_drew ?_ | refine blk_alloc ?_ _)); exact BK285.out⟩, ⟨by repeat (first | (with_reducible first | exact HB.out | apply below_alloc | apply pw_below_drewN | apply below_drew1 | refine below_set ?_ GE274.out | refine below_set ?_ GE275.out | refine below_set ?_ GE282.out | refine below_set ?_ GE285.out) | exact HB.out)⟩⟩
                           ·rw [if_neg c73] at H
                            exact absurd H (by simp)
                          ·rw [if_neg c72] at H
                           exact absurd H (by simp)
                         ·rw [if_neg c70] at H
                          have c70b0 : (decide (t297 ≤ x283000_1)) = false := by simpa using c70
                          clear c70
                          have H' := Aside0.mk H
                          clear H
                          try go_wp2
                          replace HO_7 := Aside0.mk (Kd.R_drew HO_7.out)
                          replace HO_12 := Aside0.mk (Kd.R_drew HO_12.out)
                          replace HO_13 := Aside0.mk (Kd.R_drew HO_13.out)
                          replace BK274 := Aside0.mk (blk_drew BK274.out)
                          replace BK275 := Aside0.mk (blk_drew BK275.out)
                          replace BK282 := Aside0.mk (blk_drew BK282.out)
                          replace BK285 := Aside0.mk (blk_drew BK285.out)
                          replace HB := Aside0.mk (below_drew1 HB.out)
                          have p307 : 0 ≤ (x18_2 : Int) := of_decide_eq_true (by first | (with_reducible assumption) | assumption)
                          have q307 : x18_2 < (t286.length : Int) := of_decide_eq_true (by first | (with_reducible assumption) | assumption)
                          obtain ⟨ad307, e307, hx307_0⟩ := Kd.at_int (Kd.R_reads' HO_12.out).2.2 x18_2 p307 q307
                          obtain rfl : ad299 = ad307 := (by injection e307)
                          replace p307 := eq_true p307
                          replace q307 := eq_true q307
                          refine start_ (n := 34) (S := fun w' => w'.cell? ⟨gb285, 0, none⟩ = some (.int .i64 ((rd_T35 t277 x10_1).f0)) ∧ w'.cell? ⟨gb285, 1, none⟩ = some (.int .i64 ((rd_T35 t277 x10_1).f1)) ∧ w'.cell? ⟨gb285, 2, none⟩ = some (.bool ((rd_T35 t277 x10_1).f2)) ∧ w'.cell? (ad299.add (x18_2).toNat) = some (.int .i64 (rd t286 x18_2))) (ds := []) (stickfullaw14_FillGreedy.bm 34 0) (by kernel_rfl) rfl rfl ⟨bc BK285 0, bc BK285 1, bc BK285 2, hx307_0⟩ (fun hHeld => ?_); refine with_tabW stickfullaw14_FillGreedy.tab22 stickfullaw14_FillGreedy.bits22 (fun HT_ HW_ => ?_)
                          generalize wc.drew = w80 at HO_7 HO_12 HO_13 BK274 BK275 BK282 BK285 HB hx307_0 hHeld ⊢
                          refine pure_ (i := 0) (N := some 114) (v := ?_) (a' := ?_) (stickfullaw14_FillGreedy.bm 34 1) rfl rfl (any_of HT_.out (by kernel_rfl)) (fun _ _ _ h => h) (Or.inl ⟨by rfl, ?_⟩) ?_ ?_
                          rotate_left; (focus intro w'; go_simp; with_reducible rfl); rotate_left; (focus simp only [Act.put, List.setIfInBounds_toArray, List.set_cons_zero, List.set_cons_succ, i64_w, i32_w]; rfl)
                          refine pure_ (i := 1) (N := some 115) (v := ?_) (a' := ?_) (stickfullaw14_FillGreedy.bm 34 3) rfl rfl (any_of HT_.out (by kernel_rfl)) (fun _ _ _ h => h) (Or.inl ⟨by rfl, ?_⟩) ?_ ?_
                          rotate_left; (focus intro w'; go_simp; with_reducible rfl); rotate_left; (focus simp only [Act.put, List.setIfInBounds_toArray, List.set_cons_zero, List.set_cons_succ, i64_w, i32_w]; rfl)
                          refine pure_ (i := 2) (N := some 116) (v := ?_) (a' := ?_) (stickfullaw14_FillGreedy.bm 34 7) rfl rfl (any_of HT_.out (by kernel_rfl)) (fun _ _ _ h => h) (Or.inl ⟨by rfl, ?_⟩) ?_ ?_
                          rotate_left; (focus intro w'; go_simp; with_reducible rfl); rotate_left; (focus simp only [Act.put, List.setIfInBounds_toArray, List.set_cons_zero, List.set_cons_succ, i64_w, i32_w]; rfl)
                          refine pure_ (i := 4) (N := some 118) (v := ?_) (a' := ?_) (stickfullaw14_FillGreedy.bm 34 23) rfl rfl (any_of HT_.out (by kernel_rfl)) (fun _ _ _ h => h) (Or.inl ⟨by rfl, ?_⟩) ?_ ?_
                          rotate_left; (focus intro w'; go_simp; with_reducible rfl); rotate_left; (focus simp only [Act.put, List.setIfInBounds_toArray, List.set_cons_zero, List.set_cons_succ, i64_w, i32_w]; rfl)
                          refine take_ (i := 3) (N := some 117) (v := ?_) (a' := ?_) (stickfullaw14_FillGreedy.bm 34 31) rfl rfl (take_ofW HT_.out HW_.out (by kernel_rfl)) (fun _ _ _ h => h) (Or.inl ⟨by rfl, ?_⟩) hHeld ?_ ?_
                          rotate_left; (focus rintro w' ⟨s0, s1, s2, s3⟩; go_simp; with_reducible rfl); rotate_left; (focus simp only [Act.put, List.setIfInBounds_toArray, List.set_cons_zero, List.set_cons_succ, i64_w, i32_w]; rfl)
                          refine take_ (i := 5) (N := some 119) (v := ?_) (a' := ?_) (stickfullaw14_FillGreedy.bm 34 63) rfl rfl (take_ofW HT_.out HW_.out (by kernel_rfl)) (fun _ _ _ h => h) (Or.inl ⟨by rfl, ?_⟩) hHeld ?_ ?_
                          rotate_left; (focus rintro w' ⟨s0, s1, s2, s3⟩; go_simp; with_reducible rfl); rotate_left; (focus simp only [Act.put, List.setIfInBounds_toArray, List.set_cons_zero, List.set_cons_succ, i64_w, i32_w]; rfl)
                          refine pure_ (i := 6) (N := some 120) (v := ?_) (a' := ?_) (stickfullaw14_FillGreedy.bm 34 127) rfl rfl (any_of HT_.out (by kernel_rfl)) (fun _ _ _ h => h) (Or.inl ⟨by rfl, ?_⟩) ?_ ?_
                          rotate_left; (focus intro w'; go_simp; with_reducible rfl); rotate_left; (focus simp only [Act.put, List.setIfInBounds_toArray, List.set_cons_zero, List.set_cons_succ, i64_w, i32_w]; rfl)
                          refine pure_ (i := 7) (N := some 121) (v := ?_) (a' := ?_) (stickfullaw14_FillGreedy.bm 34 255) rfl rfl (any_of HT_.out (by kernel_rfl)) (fun _ _ _ h => h) (Or.inl ⟨by rfl, ?_⟩) ?_ ?_
                          rotate_left; (focus intro w'; go_simp; with_reducible rfl); rotate_left; (focus simp only [Act.put, List.setIfInBounds_toArray, List.set_cons_zero, List.set_cons_succ, i64_w, i32_w]; rfl)
                          refine pure_ (i := 8) (N := some 122) (v := ?_) (a' := ?_) (stickfullaw14_FillGreedy.bm 34 511) rfl rfl (any_of HT_.out (by kernel_rfl)) (fun _ _ _ h => h) (Or.inl ⟨by rfl, ?_⟩) ?_ ?_
                          rotate_left; (focus intro w'; go_simp; with_reducible rfl); rotate_left; (focus simp only [Act.put, List.setIfInBounds_toArray, List.set_cons_zero, List.set_cons_succ, i64_w, i32_w]; rfl)
                          refine pure_ (i := 9) (N := some 123) (v := ?_) (a' := ?_) (stickfullaw14_FillGreedy.bm 34 1023) rfl rfl (any_of HT_.out (by kernel_rfl)) (fun _ _ _ h => h) (Or.inl ⟨by rfl, ?_⟩) ?_ ?_
                          rotate_left; (focus intro w'; go_simp; with_reducible rfl); rotate_left; (focus simp only [Act.put, List.setIfInBounds_toArray, List.set_cons_zero, List.set_cons_succ, i64_w, i32_w]; rfl)
                          refine pure_ (i := 10) (N := some 124) (v := ?_) (a' := ?_) (stickfullaw14_FillGreedy.bm 34 2047) rfl rfl (any_of HT_.out (by kernel_rfl)) (fun _ _ _ h => h) (Or.inl ⟨by rfl, ?_⟩) ?_ ?_
                          rotate_left; (focus intro w'; go_simp; with_reducible rfl); rotate_left; (focus simp only [Act.put, List.setIfInBounds_toArray, List.set_cons_zero, List.set_cons_succ, i64_w, i32_w]; rfl)
                          refine pure_ (i := 11) (N := some 125) (v := ?_) (a' := ?_) (stickfullaw14_FillGreedy.bm 34 4095) rfl rfl (any_of HT_.out (by kernel_rfl)) (fun _ _ _ h => h) (Or.inl ⟨by rfl, ?_⟩) ?_ ?_
                          rotate_left; (focus intro w'; go_simp; with_reducible rfl); rotate_left; (focus simp only [Act.put, List.setIfInBounds_toArray, List.set_cons_zero, List.set_cons_succ, i64_w, i32_w]; rfl)
                          refine pure_ (i := 12) (N := some 126) (v := ?_) (a' := ?_) (stickfullaw14_FillGreedy.bm 34 8191) rfl rfl (any_of HT_.out (by kernel_rfl)) (fun _ _ _ h => h) (Or.inl ⟨by rfl, ?_⟩) ?_ ?_
                          rotate_left; (focus intro w'; go_simp; with_reducible rfl); rotate_left; (focus simp only [Act.put, List.setIfInBounds_toArray, List.set_cons_zero, List.set_cons_succ, i64_w, i32_w]; rfl)
                          refine pure_ (i := 13) (N := some 127) (v := undef) (a' := ?_) (stickfullaw14_FillGreedy.bm 34 16383) rfl rfl (any_of HT_.out (by kernel_rfl)) (fun _ _ _ h => h) (Or.inr ⟨by rfl, rfl⟩) ?_ ?_
                          rotate_left; (focus simp only [Act.put, List.setIfInBounds_toArray, List.set_cons_zero, List.set_cons_succ, i64_w, i32_w]; rfl)
                          refine pure_ (i := 14) (N := some 128) (v := undef) (a' := ?_) (stickfullaw14_FillGreedy.bm 34 32767) rfl rfl (any_of HT_.out (by kernel_rfl)) (fun _ _ _ h => h) (Or.inr ⟨by rfl, rfl⟩) ?_ ?_
                          rotate_left; (focus simp only [Act.put, List.setIfInBounds_toArray, List.set_cons_zero, List.set_cons_succ, i64_w, i32_w]; rfl)
                          refine pure_ (i := 15) (N := some 129) (v := undef) (a' := ?_) (stickfullaw14_FillGreedy.bm 34 65535) rfl rfl (any_of HT_.out (by kernel_rfl)) (fun _ _ _ h => h) (Or.inr ⟨by rfl, rfl⟩) ?_ ?_
                          rotate_left; (focus simp only [Act.put, List.setIfInBounds_toArray, List.set_cons_zero, List.set_cons_succ, i64_w, i32_w]; rfl)
                          refine pure_ (i := 16) (N := some 130) (v := undef) (a' := ?_) (stickfullaw14_FillGreedy.bm 34 131071) rfl rfl (any_of HT_.out (by kernel_rfl)) (fun _ _ _ h => h) (Or.inr ⟨by rfl, rfl⟩) ?_ ?_
                          rotate_left; (focus simp only [Act.put, List.setIfInBounds_toArray, List.set_cons_zero, List.set_cons_succ, i64_w, i32_w]; rfl)
                          refine pure_ (i := 17) (N := some 131) (v := undef) (a' := ?_) (stickfullaw14_FillGreedy.bm 34 262143) rfl rfl (any_of HT_.out (by kernel_rfl)) (fun _ _ _ h => h) (Or.inr ⟨by rfl, rfl⟩) ?_ ?_
                          rotate_left; (focus simp only [Act.put, List.setIfInBounds_toArray, List.set_cons_zero, List.set_cons_succ, i64_w, i32_w]; rfl)
                          refine pure_ (i := 18) (N := some 132) (v := undef) (a' := ?_) (stickfullaw14_FillGreedy.bm 34 524287) rfl rfl (any_of HT_.out (by kernel_rfl)) (fun _ _ _ h => h) (Or.inr ⟨by rfl, rfl⟩) ?_ ?_
                          rotate_left; (focus simp only [Act.put, List.setIfInBounds_toArray, List.set_cons_zero, List.set_cons_succ, i64_w, i32_w]; rfl)
                          refine pure_ (i := 19) (N := some 133) (v := undef) (a' := ?_) (stickfullaw14_FillGreedy.bm 34 1048575) rfl rfl (any_of HT_.out (by kernel_rfl)) (fun _ _ _ h => h) (Or.inr ⟨by rfl, rfl⟩) ?_ ?_
                          rotate_left; (focus simp only [Act.put, List.setIfInBounds_toArray, List.set_cons_zero, List.set_cons_succ, i64_w, i32_w]; rfl)
                          refine pure_ (i := 20) (N := some 134) (v := undef) (a' := ?_) (stickfullaw14_FillGreedy.bm 34 2097151) rfl rfl (any_of HT_.out (by kernel_rfl)) (fun _ _ _ h => h) (Or.inr ⟨by rfl, rfl⟩) ?_ ?_
                          rotate_left; (focus simp only [Act.put, List.setIfInBounds_toArray, List.set_cons_zero, List.set_cons_succ, i64_w, i32_w]; rfl)
                          refine pure_ (i := 21) (N := some 135) (v := ?_) (a' := ?_) (stickfullaw14_FillGreedy.bm 34 4194303) rfl rfl (any_of HT_.out (by kernel_rfl)) (fun _ _ _ h => h) (Or.inl ⟨by rfl, ?_⟩) ?_ ?_
                          rotate_left; (focus intro w'; go_simp; with_reducible rfl); rotate_left; (focus simp only [Act.put, List.setIfInBounds_toArray, List.set_cons_zero, List.set_cons_succ, i64_w, i32_w]; rfl)
                          refine pure_ (i := 22) (N := some 136) (v := ?_) (a' := ?_) (stickfullaw14_FillGreedy.bm 34 8388607) rfl rfl (any_of HT_.out (by kernel_rfl)) (fun _ _ _ h => h) (Or.inl ⟨by rfl, ?_⟩) ?_ ?_
                          rotate_left; (focus intro w'; go_simp; with_reducible rfl); rotate_left; (focus simp only [Act.put, List.setIfInBounds_toArray, List.set_cons_zero, List.set_cons_succ, i64_w, i32_w]; rfl)
                          refine pure_ (i := 23) (N := some 137) (v := ?_) (a' := ?_) (stickfullaw14_FillGreedy.bm 34 16777215) rfl rfl (any_of HT_.out (by kernel_rfl)) (fun _ _ _ h => h) (Or.inl ⟨by rfl, ?_⟩) ?_ ?_
                          rotate_left; (focus intro w'; go_simp; with_reducible rfl); rotate_left; (focus simp only [Act.put, List.setIfInBounds_toArray, List.set_cons_zero, List.set_cons_succ, i64_w, i32_w]; rfl)
                          refine pure_ (i := 24) (N := some 138) (v := ?_) (a' := ?_) (stickfullaw14_FillGreedy.bm 34 33554431) rfl rfl (any_of HT_.out (by kernel_rfl)) (fun _ _ _ h => h) (Or.inl ⟨by rfl, ?_⟩) ?_ ?_
                          rotate_left; (focus intro w'; go_simp; with_reducible rfl); rotate_left; (focus simp only [Act.put, List.setIfInBounds_toArray, List.set_cons_zero, List.set_cons_succ, i64_w, i32_w]; rfl)
                          refine pure_ (i := 25) (N := some 139) (v := undef) (a' := ?_) (stickfullaw14_FillGreedy.bm 34 67108863) rfl rfl (any_of HT_.out (by kernel_rfl)) (fun _ _ _ h => h) (Or.inr ⟨by rfl, rfl⟩) ?_ ?_
                          rotate_left; (focus simp only [Act.put, List.setIfInBounds_toArray, List.set_cons_zero, List.set_cons_succ, i64_w, i32_w]; rfl)
                          refine pure_ (i := 26) (N := some 140) (v := undef) (a' := ?_) (stickfullaw14_FillGreedy.bm 34 134217727) rfl rfl (any_of HT_.out (by kernel_rfl)) (fun _ _ _ h => h) (Or.inr ⟨by rfl, rfl⟩) ?_ ?_
                          rotate_left; (focus simp only [Act.put, List.setIfInBounds_toArray, List.set_cons_zero, List.set_cons_succ, i64_w, i32_w]; rfl)
                          refine pure_ (i := 27) (N := some 141) (v := ?_) (a' := ?_) (stickfullaw14_FillGreedy.bm 34 268435455) rfl rfl (any_of HT_.out (by kernel_rfl)) (fun _ _ _ h => h) (Or.inl ⟨by rfl, ?_⟩) ?_ ?_
                          rotate_left; (focus intro w'; go_simp; with_reducible rfl); rotate_left; (focus simp only [Act.put, List.setIfInBounds_toArray, List.set_cons_zero, List.set_cons_succ, i64_w, i32_w]; rfl)
                          refine pure_ (i := 28) (N := some 142) (v := ?_) (a' := ?_) (stickfullaw14_FillGreedy.bm 34 536870911) rfl rfl (any_of HT_.out (by kernel_rfl)) (fun _ _ _ h => h) (Or.inl ⟨by rfl, ?_⟩) ?_ ?_
                          rotate_left; (focus intro w'; go_simp; with_reducible rfl); rotate_left; (focus simp only [Act.put, List.setIfInBounds_toArray, List.set_cons_zero, List.set_cons_succ, i64_w, i32_w]; rfl)
                          refine pure_ (i := 29) (N := some 143) (v := undef) (a' := ?_) (stickfullaw14_FillGreedy.bm 34 1073741823) rfl rfl (any_of HT_.out (by kernel_rfl)) (fun _ _ _ h => h) (Or.inr ⟨by rfl, rfl⟩) ?_ ?_
                          rotate_left; (focus simp only [Act.put, List.setIfInBounds_toArray, List.set_cons_zero, List.set_cons_succ, i64_w, i32_w]; rfl)
                          refine pure_ (i := 30) (N := some 144) (v := undef) (a' := ?_) (stickfullaw14_FillGreedy.bm 34 2147483647) rfl rfl (any_of HT_.out (by kernel_rfl)) (fun _ _ _ h => h) (Or.inr ⟨by rfl, rfl⟩) ?_ ?_
                          rotate_left; (focus simp only [Act.put, List.setIfInBounds_toArray, List.set_cons_zero, List.set_cons_succ, i64_w, i32_w]; rfl)
                          refine pure_ (i := 31) (N := some 145) (v := undef) (a' := ?_) (stickfullaw14_FillGreedy.bm 34 4294967295) rfl rfl (any_of HT_.out (by kernel_rfl)) (fun _ _ _ h => h) (Or.inr ⟨by rfl, rfl⟩) ?_ ?_
                          rotate_left; (focus simp only [Act.put, List.setIfInBounds_toArray, List.set_cons_zero, List.set_cons_succ, i64_w, i32_w]; rfl)
                          refine pure_ (i := 32) (N := some 146) (v := undef) (a' := ?_) (stickfullaw14_FillGreedy.bm 34 8589934591) rfl rfl (any_of HT_.out (by kernel_rfl)) (fun _ _ _ h => h) (Or.inr ⟨by rfl, rfl⟩) ?_ ?_
                          rotate_left; (focus simp only [Act.put, List.setIfInBounds_toArray, List.set_cons_zero, List.set_cons_succ, i64_w, i32_w]; rfl)
                          refine pure_ (i := 33) (N := some 147) (v := ?_) (a' := ?_) (stickfullaw14_FillGreedy.bm 34 17179869183) rfl rfl (any_of HT_.out (by kernel_rfl)) (fun _ _ _ h => h) (Or.inl ⟨by rfl, ?_⟩) ?_ ?_
                          rotate_left; (focus intro w'; go_simp; with_reducible rfl); rotate_left; (focus simp only [Act.put, List.setIfInBounds_toArray, List.set_cons_zero, List.set_cons_succ, i64_w, i32_w]; rfl)
                          refine done_ (done_of HT_.out (by kernel_rfl)) ?_
                          try go_wp2
                          refine Handed.intro kj48 ?measure ?_; rotate_left; go_step; (repeat apply Exists.intro); refine ⟨?rel, ?eq_⟩
                          case eq_ => first | rfl | rw [c70b0] | simp only [c70b0]
                          case measure => have := HK1.out; have := HK2.out; have := HJ48.out; omega
                          case rel => exact ⟨(wrap64 (x18_2 + 1)), (by first | rfl | (simp; done) | (simp [*]; done)), H', ⟨by have := HK1.out; have := HK2.out; have := HJ48.out; omega⟩, ⟨by (with_reducible repeat (first | apply Kd.R_alloc | apply Kd.R_drewN | apply Kd.R_drew)); exact HO_7.out⟩, ⟨by (with_reducible repeat (first | apply Kd.R_alloc | apply Kd.R_drewN | apply Kd.R_drew)); exact HO_12.out⟩, ⟨by (with_reducible repeat (first | apply Kd.R_alloc | apply Kd.R_drewN | apply Kd.R_drew)); exact HO_13.out⟩, ⟨by (with_reducible repeat (first | refine blk_drewN ?_ _ | refine blk_drew ?_ | refine blk_alloc ?_ _)); exact BK274.out⟩, ⟨by (with_reducible repeat (first | refine blk_drewN ?_ _ | refine blk_drew ?_ | refine blk_alloc ?_ _)); exact BK275.out⟩, ⟨by (with_reducible repeat (first | refine blk_drewN ?_ _ | refine blk_drew ?_ | refine blk_alloc ?_ _)); exact BK282.out⟩, ⟨by (with_reducible repeat (first | refine blk_drewN ?_ _ | refine blk_drew ?_ | refine blk_alloc ?_ _)); exact BK285.out⟩, ⟨by repeat (first | (with_reducible first | exact HB.out | apply below_alloc | apply pw_below_drewN | apply below_drew1 | refine below_set ?_ GE274.out | refine below_set ?_ GE275.out | refine below_set ?_ GE282.out | refine below_set ?_ GE285.out) | exact HB.out)⟩⟩
                       ·rw [if_neg c64] at H
                        have c64b0 : decide (((rd_T35 t277 x10_1).f1) < (rd t286 x18_2)) = false := decide_eq_false c64
                        clear c64
                        have H' := Aside0.mk H
                        clear H
                        try go_wp2
                        replace HO_7 := Aside0.mk (Kd.R_drew HO_7.out)
                        replace HO_12 := Aside0.mk (Kd.R_drew HO_12.out)
                        replace HO_13 := Aside0.mk (Kd.R_drew HO_13.out)
                        replace BK274 := Aside0.mk (blk_drew BK274.out)
                        replace BK275 := Aside0.mk (blk_drew BK275.out)
                        replace BK282 := Aside0.mk (blk_drew BK282.out)
                        replace BK285 := Aside0.mk (blk_drew BK285.out)
                        replace HB := Aside0.mk (below_drew1 HB.out)
                        have p307 : 0 ≤ (x18_2 : Int) := of_decide_eq_true (by first | (with_reducible assumption) | assumption)
                        have q307 : x18_2 < (t286.length : Int) := of_decide_eq_true (by first | (with_reducible assumption) | assumption)
                        obtain ⟨ad307, e307, hx307_0⟩ := Kd.at_int (Kd.R_reads' HO_12.out).2.2 x18_2 p307 q307
                        obtain rfl : ad299 = ad307 := (by injection e307)
                        replace p307 := eq_true p307
                        replace q307 := eq_true q307
                        refine start_ (n := 34) (S := fun w' => w'.cell? ⟨gb285, 0, none⟩ = some (.int .i64 ((rd_T35 t277 x10_1).f0)) ∧ w'.cell? ⟨gb285, 1, none⟩ = some (.int .i64 ((rd_T35 t277 x10_1).f1)) ∧ w'.cell? ⟨gb285, 2, none⟩ = some (.bool ((rd_T35 t277 x10_1).f2)) ∧ w'.cell? (ad299.add (x18_2).toNat) = some (.int .i64 (rd t286 x18_2))) (ds := []) (stickfullaw14_FillGreedy.bm 34 0) (by kernel_rfl) rfl rfl ⟨bc BK285 0, bc BK285 1, bc BK285 2, hx307_0⟩ (fun hHeld => ?_); refine with_tabW stickfullaw14_FillGreedy.tab22 stickfullaw14_FillGreedy.bits22 (fun HT_ HW_ => ?_)
                        generalize wc.drew = w81 at HO_7 HO_12 HO_13 BK274 BK275 BK282 BK285 HB hx307_0 hHeld ⊢
                        refine pure_ (i := 0) (N := some 114) (v := ?_) (a' := ?_) (stickfullaw14_FillGreedy.bm 34 1) rfl rfl (any_of HT_.out (by kernel_rfl)) (fun _ _ _ h => h) (Or.inl ⟨by rfl, ?_⟩) ?_ ?_
                        rotate_left; (focus intro w'; go_simp; with_reducible rfl); rotate_left; (focus simp only [Act.put, List.setIfInBounds_toArray, List.set_cons_zero, List.set_cons_succ, i64_w, i32_w]; rfl)
                        refine pure_ (i := 1) (N := some 115) (v := ?_) (a' := ?_) (stickfullaw14_FillGreedy.bm 34 3) rfl rfl (any_of HT_.out (by kernel_rfl)) (fun _ _ _ h => h) (Or.inl ⟨by rfl, ?_⟩) ?_ ?_
                        rotate_left; (focus intro w'; go_simp; with_reducible rfl); rotate_left; (focus simp only [Act.put, List.setIfInBounds_toArray, List.set_cons_zero, List.set_cons_succ, i64_w, i32_w]; rfl)
                        refine pure_ (i := 2) (N := some 116) (v := ?_) (a' := ?_) (stickfullaw14_FillGreedy.bm 34 7) rfl rfl (any_of HT_.out (by kernel_rfl)) (fun _ _ _ h => h) (Or.inl ⟨by rfl, ?_⟩) ?_ ?_
                        rotate_left; (focus intro w'; go_simp; with_reducible rfl); rotate_left; (focus simp only [Act.put, List.setIfInBounds_toArray, List.set_cons_zero, List.set_cons_succ, i64_w, i32_w]; rfl)
                        refine pure_ (i := 4) (N := some 118) (v := ?_) (a' := ?_) (stickfullaw14_FillGreedy.bm 34 23) rfl rfl (any_of HT_.out (by kernel_rfl)) (fun _ _ _ h => h) (Or.inl ⟨by rfl, ?_⟩) ?_ ?_
                        rotate_left; (focus intro w'; go_simp; with_reducible rfl); rotate_left; (focus simp only [Act.put, List.setIfInBounds_toArray, List.set_cons_zero, List.set_cons_succ, i64_w, i32_w]; rfl)
                        refine take_ (i := 3) (N := some 117) (v := ?_) (a' := ?_) (stickfullaw14_FillGreedy.bm 34 31) rfl rfl (take_ofW HT_.out HW_.out (by kernel_rfl)) (fun _ _ _ h => h) (Or.inl ⟨by rfl, ?_⟩) hHeld ?_ ?_
                        rotate_left; (focus rintro w' ⟨s0, s1, s2, s3⟩; go_simp; with_reducible rfl); rotate_left; (focus simp only [Act.put, List.setIfInBounds_toArray, List.set_cons_zero, List.set_cons_succ, i64_w, i32_w]; rfl)
                        refine take_ (i := 5) (N := some 119) (v := ?_) (a' := ?_) (stickfullaw14_FillGreedy.bm 34 63) rfl rfl (take_ofW HT_.out HW_.out (by kernel_rfl)) (fun _ _ _ h => h) (Or.inl ⟨by rfl, ?_⟩) hHeld ?_ ?_
                        rotate_left; (focus rintro w' ⟨s0, s1, s2, s3⟩; go_simp; with_reducible rfl); rotate_left; (focus simp only [Act.put, List.setIfInBounds_toArray, List.set_cons_zero, List.set_cons_succ, i64_w, i32_w]; rfl)
                        refine pure_ (i := 6) (N := some 120) (v := ?_) (a' := ?_) (stickfullaw14_FillGreedy.bm 34 127) rfl rfl (any_of HT_.out (by kernel_rfl)) (fun _ _ _ h => h) (Or.inl ⟨by rfl, ?_⟩) ?_ ?_
                        rotate_left; (focus intro w'; go_simp; with_reducible rfl); rotate_left; (focus simp only [Act.put, List.setIfInBounds_toArray, List.set_cons_zero, List.set_cons_succ, i64_w, i32_w]; rfl)
                        refine pure_ (i := 7) (N := some 121) (v := ?_) (a' := ?_) (stickfullaw14_FillGreedy.bm 34 255) rfl rfl (any_of HT_.out (by kernel_rfl)) (fun _ _ _ h => h) (Or.inl ⟨by rfl, ?_⟩) ?_ ?_
                        rotate_left; (focus intro w'; go_simp; with_reducible rfl); rotate_left; (focus simp only [Act.put, List.setIfInBounds_toArray, List.set_cons_zero, List.set_cons_succ, i64_w, i32_w]; rfl)
                        refine pure_ (i := 8) (N := some 122) (v := undef) (a' := ?_) (stickfullaw14_FillGreedy.bm 34 511) rfl rfl (any_of HT_.out (by kernel_rfl)) (fun _ _ _ h => h) (Or.inr ⟨by rfl, rfl⟩) ?_ ?_
                        rotate_left; (focus simp only [Act.put, List.setIfInBounds_toArray, List.set_cons_zero, List.set_cons_succ, i64_w, i32_w]; rfl)
                        refine pure_ (i := 9) (N := some 123) (v := undef) (a' := ?_) (stickfullaw14_FillGreedy.bm 34 1023) rfl rfl (any_of HT_.out (by kernel_rfl)) (fun _ _ _ h => h) (Or.inr ⟨by rfl, rfl⟩) ?_ ?_
                        rotate_left; (focus simp only [Act.put, List.setIfInBounds_toArray, List.set_cons_zero, List.set_cons_succ, i64_w, i32_w]; rfl)
                        refine pure_ (i := 10) (N := some 124) (v := undef) (a' := ?_) (stickfullaw14_FillGreedy.bm 34 2047) rfl rfl (any_of HT_.out (by kernel_rfl)) (fun _ _ _ h => h) (Or.inr ⟨by rfl, rfl⟩) ?_ ?_
                        rotate_left; (focus simp only [Act.put, List.setIfInBounds_toArray, List.set_cons_zero, List.set_cons_succ, i64_w, i32_w]; rfl)
                        refine pure_ (i := 11) (N := some 125) (v := undef) (a' := ?_) (stickfullaw14_FillGreedy.bm 34 4095) rfl rfl (any_of HT_.out (by kernel_rfl)) (fun _ _ _ h => h) (Or.inr ⟨by rfl, rfl⟩) ?_ ?_
                        rotate_left; (focus simp only [Act.put, List.setIfInBounds_toArray, List.set_cons_zero, List.set_cons_succ, i64_w, i32_w]; rfl)
                        refine pure_ (i := 12) (N := some 126) (v := undef) (a' := ?_) (stickfullaw14_FillGreedy.bm 34 8191) rfl rfl (any_of HT_.out (by kernel_rfl)) (fun _ _ _ h => h) (Or.inr ⟨by rfl, rfl⟩) ?_ ?_
                        rotate_left; (focus simp only [Act.put, List.setIfInBounds_toArray, List.set_cons_zero, List.set_cons_succ, i64_w, i32_w]; rfl)
                        refine pure_ (i := 13) (N := some 127) (v := undef) (a' := ?_) (stickfullaw14_FillGreedy.bm 34 16383) rfl rfl (any_of HT_.out (by kernel_rfl)) (fun _ _ _ h => h) (Or.inr ⟨by rfl, rfl⟩) ?_ ?_
                        rotate_left; (focus simp only [Act.put, List.setIfInBounds_toArray, List.set_cons_zero, List.set_cons_succ, i64_w, i32_w]; rfl)
                        refine pure_ (i := 14) (N := some 128) (v := undef) (a' := ?_) (stickfullaw14_FillGreedy.bm 34 32767) rfl rfl (any_of HT_.out (by kernel_rfl)) (fun _ _ _ h => h) (Or.inr ⟨by rfl, rfl⟩) ?_ ?_
                        rotate_left; (focus simp only [Act.put, List.setIfInBounds_toArray, List.set_cons_zero, List.set_cons_succ, i64_w, i32_w]; rfl)
                        refine pure_ (i := 15) (N := some 129) (v := undef) (a' := ?_) (stickfullaw14_FillGreedy.bm 34 65535) rfl rfl (any_of HT_.out (by kernel_rfl)) (fun _ _ _ h => h) (Or.inr ⟨by rfl, rfl⟩) ?_ ?_
                        rotate_left; (focus simp only [Act.put, List.setIfInBounds_toArray, List.set_cons_zero, List.set_cons_succ, i64_w, i32_w]; rfl)
                        refine pure_ (i := 16) (N := some 130) (v := undef) (a' := ?_) (stickfullaw14_FillGreedy.bm 34 131071) rfl rfl (any_of HT_.out (by kernel_rfl)) (fun _ _ _ h => h) (Or.inr ⟨by rfl, rfl⟩) ?_ ?_
                        rotate_left; (focus simp only [Act.put, List.setIfInBounds_toArray, List.set_cons_zero, List.set_cons_succ, i64_w, i32_w]; rfl)
                        refine pure_ (i := 17) (N := some 131) (v := undef) (a' := ?_) (stickfullaw14_FillGreedy.bm 34 262143) rfl rfl (any_of HT_.out (by kernel_rfl)) (fun _ _ _ h => h) (Or.inr ⟨by rfl, rfl⟩) ?_ ?_
                        rotate_left; (focus simp only [Act.put, List.setIfInBounds_toArray, List.set_cons_zero, List.set_cons_succ, i64_w, i32_w]; rfl)
                        refine pure_ (i := 18) (N := some 132) (v := undef) (a' := ?_) (stickfullaw14_FillGreedy.bm 34 524287) rfl rfl (any_of HT_.out (by kernel_rfl)) (fun _ _ _ h => h) (Or.inr ⟨by rfl, rfl⟩) ?_ ?_
                        rotate_left; (focus simp only [Act.put, List.setIfInBounds_toArray, List.set_cons_zero, List.set_cons_succ, i64_w, i32_w]; rfl)
                        refine pure_ (i := 19) (N := some 133) (v := undef) (a' := ?_) (stickfullaw14_FillGreedy.bm 34 1048575) rfl rfl (any_of HT_.out (by kernel_rfl)) (fun _ _ _ h => h) (Or.inr ⟨by rfl, rfl⟩) ?_ ?_
                        rotate_left; (focus simp only [Act.put, List.setIfInBounds_toArray, List.set_cons_zero, List.set_cons_succ, i64_w, i32_w]; rfl)
                        refine pure_ (i := 20) (N := some 134) (v := undef) (a' := ?_) (stickfullaw14_FillGreedy.bm 34 2097151) rfl rfl (any_of HT_.out (by kernel_rfl)) (fun _ _ _ h => h) (Or.inr ⟨by rfl, rfl⟩) ?_ ?_
                        rotate_left; (focus simp only [Act.put, List.setIfInBounds_toArray, List.set_cons_zero, List.set_cons_succ, i64_w, i32_w]; rfl)
                        refine pure_ (i := 21) (N := some 135) (v := undef) (a' := ?_) (stickfullaw14_FillGreedy.bm 34 4194303) rfl rfl (any_of HT_.out (by kernel_rfl)) (fun _ _ _ h => h) (Or.inr ⟨by rfl, rfl⟩) ?_ ?_
                        rotate_left; (focus simp only [Act.put, List.setIfInBounds_toArray, List.set_cons_zero, List.set_cons_succ, i64_w, i32_w]; rfl)
                        refine pure_ (i := 22) (N := some 136) (v := undef) (a' := ?_) (stickfullaw14_FillGreedy.bm 34 8388607) rfl rfl (any_of HT_.out (by kernel_rfl)) (fun _ _ _ h => h) (Or.inr ⟨by rfl, rfl⟩) ?_ ?_
                        rotate_left; (focus simp only [Act.put, List.setIfInBounds_toArray, List.set_cons_zero, List.set_cons_succ, i64_w, i32_w]; rfl)
                        refine pure_ (i := 23) (N := some 137) (v := ?_) (a' := ?_) (stickfullaw14_FillGreedy.bm 34 16777215) rfl rfl (any_of HT_.out (by kernel_rfl)) (fun _ _ _ h => h) (Or.inl ⟨by rfl, ?_⟩) ?_ ?_
                        rotate_left; (focus intro w'; go_simp; with_reducible rfl); rotate_left; (focus simp only [Act.put, List.setIfInBounds_toArray, List.set_cons_zero, List.set_cons_succ, i64_w, i32_w]; rfl)
                        refine pure_ (i := 24) (N := some 138) (v := ?_) (a' := ?_) (stickfullaw14_FillGreedy.bm 34 33554431) rfl rfl (any_of HT_.out (by kernel_rfl)) (fun _ _ _ h => h) (Or.inl ⟨by rfl, ?_⟩) ?_ ?_
                        rotate_left; (focus intro w'; go_simp; with_reducible rfl); rotate_left; (focus simp only [Act.put, List.setIfInBounds_toArray, List.set_cons_zero, List.set_cons_succ, i64_w, i32_w]; rfl)
                        refine pure_ (i := 25) (N := some 139) (v := undef) (a' := ?_) (stickfullaw14_FillGreedy.bm 34 67108863) rfl rfl (any_of HT_.out (by kernel_rfl)) (fun _ _ _ h => h) (Or.inr ⟨by rfl, rfl⟩) ?_ ?_
                        rotate_left; (focus simp only [Act.put, List.setIfInBounds_toArray, List.set_cons_zero, List.set_cons_succ, i64_w, i32_w]; rfl)
                        refine pure_ (i := 26) (N := some 140) (v := undef) (a' := ?_) (stickfullaw14_FillGreedy.bm 34 134217727) rfl rfl (any_of HT_.out (by kernel_rfl)) (fun _ _ _ h => h) (Or.inr ⟨by rfl, rfl⟩) ?_ ?_
                        rotate_left; (focus simp only [Act.put, List.setIfInBounds_toArray, List.set_cons_zero, List.set_cons_succ, i64_w, i32_w]; rfl)
                        refine pure_ (i := 27) (N := some 141) (v := ?_) (a' := ?_) (stickfullaw14_FillGreedy.bm 34 268435455) rfl rfl (any_of HT_.out (by kernel_rfl)) (fun _ _ _ h => h) (Or.inl ⟨by rfl, ?_⟩) ?_ ?_
                        rotate_left; (focus intro w'; go_simp; with_reducible rfl); rotate_left; (focus simp only [Act.put, List.setIfInBounds_toArray, List.set_cons_zero, List.set_cons_succ, i64_w, i32_w]; rfl)
                        refine pure_ (i := 28) (N := some 142) (v := ?_) (a' := ?_) (stickfullaw14_FillGreedy.bm 34 536870911) rfl rfl (any_of HT_.out (by kernel_rfl)) (fun _ _ _ h => h) (Or.inl ⟨by rfl, ?_⟩) ?_ ?_
                        rotate_left; (focus intro w'; go_simp; with_reducible rfl); rotate_left; (focus simp only [Act.put, List.setIfInBounds_toArray, List.set_cons_zero, List.set_cons_succ, i64_w, i32_w]; rfl)
                        refine pure_ (i := 29) (N := some 143) (v := undef) (a' := ?_) (stickfullaw14_FillGreedy.bm 34 1073741823) rfl rfl (any_of HT_.out (by kernel_rfl)) (fun _ _ _ h => h) (Or.inr ⟨by rfl, rfl⟩) ?_ ?_
                        rotate_left; (focus simp only [Act.put, List.setIfInBounds_toArray, List.set_cons_zero, List.set_cons_succ, i64_w, i32_w]; rfl)
                        refine pure_ (i := 30) (N := some 144) (v := undef) (a' := ?_) (stickfullaw14_FillGreedy.bm 34 2147483647) rfl rfl (any_of HT_.out (by kernel_rfl)) (fun _ _ _ h => h) (Or.inr ⟨by rfl, rfl⟩) ?_ ?_
                        rotate_left; (focus simp only [Act.put, List.setIfInBounds_toArray, List.set_cons_zero, List.set_cons_succ, i64_w, i32_w]; rfl)
                        refine pure_ (i := 31) (N := some 145) (v := undef) (a' := ?_) (stickfullaw14_FillGreedy.bm 34 4294967295) rfl rfl (any_of HT_.out (by kernel_rfl)) (fun _ _ _ h => h) (Or.inr ⟨by rfl, rfl⟩) ?_ ?_
                        rotate_left; (focus simp only [Act.put, List.setIfInBounds_toArray, List.set_cons_zero, List.set_cons_succ, i64_w, i32_w]; rfl)
                        refine pure_ (i := 32) (N := some 146) (v := undef) (a' := ?_) (stickfullaw14_FillGreedy.bm 34 8589934591) rfl rfl (any_of HT_.out (by kernel_rfl)) (fun _ _ _ h => h) (Or.inr ⟨by rfl, rfl⟩) ?_ ?_
                        rotate_left; (focus simp only [Act.put, List.setIfInBounds_toArray, List.set_cons_zero, List.set_cons_succ, i64_w, i32_w]; rfl)
                        refine pure_ (i := 33) (N := some 147) (v := ?_) (a' := ?_) (stickfullaw14_FillGreedy.bm 34 17179869183) rfl rfl (any_of HT_.out (by kernel_rfl)) (fun _ _ _ h => h) (Or.inl ⟨by rfl, ?_⟩) ?_ ?_
                        rotate_left; (focus intro w'; go_simp; with_reducible rfl); rotate_left; (focus simp only [Act.put, List.setIfInBounds_toArray, List.set_cons_zero, List.set_cons_succ, i64_w, i32_w]; rfl)
                        refine done_ (done_of HT_.out (by kernel_rfl)) ?_
                        try go_wp2
                        go_roundg kj48
                        case measure => have := HK1.out; have := HK2.out; have := HJ48.out; omega
                        case rel => exact ⟨(wrap64 (x18_2 + 1)), (by first | rfl | (simp; done) | (simp [*]; done)), H', ⟨by have := HK1.out; have := HK2.out; have := HJ48.out; omega⟩, ⟨by (with_reducible repeat (first | apply Kd.R_alloc | apply Kd.R_drewN | apply Kd.R_drew)); exact HO_7.out⟩, ⟨by (with_reducible repeat (first | apply Kd.R_alloc | apply Kd.R_drewN | apply Kd.R_drew)); exact HO_12.out⟩, ⟨by (with_reducible repeat (first | apply Kd.R_alloc | apply Kd.R_drewN | apply Kd.R_drew)); exact HO_13.out⟩, ⟨by (with_reducible repeat (first | refine blk_drewN ?_ _ | refine blk_drew ?_ | refine blk_alloc ?_ _)); exact BK274.out⟩, ⟨by (with_reducible repeat (first | refine blk_drewN ?_ _ | refine blk_drew ?_ | refine blk_alloc ?_ _)); exact BK275.out⟩, ⟨by (with_reducible repeat (first | refine blk_drewN ?_ _ | refine blk_drew ?_ | refine blk_alloc ?_ _)); exact BK282.out⟩, ⟨by (with_reducible repeat (first | refine blk_drewN ?_ _ | refine blk_drew ?_ | refine blk_alloc ?_ _)); exact BK285.out⟩, ⟨by repeat (first | (with_reducible first | exact HB.out | apply below_alloc | apply pw_below_drewN | apply below_drew1 | refine below_set ?_ GE274.out | refine below_set ?_ GE275.out | refine below_set ?_ GE282.out | refine below_set ?_ GE285.out) | exact HB.out)⟩⟩
                      ·rw [if_neg c63] at H
                       exact absurd H (by simp)
                     ·rw [if_neg c62] at H
                      exact absurd H (by simp)
                 ·rw [if_neg c47] at H
                  exact absurd H (by simp)
                ·rw [if_neg c46] at H
                 exact absurd H (by simp)
               ·rw [if_neg c45] at H
                exact absurd H (by simp)
              ·rw [if_neg c44] at H
               exact absurd H (by simp)
             ·rw [if_neg c43] at H
              have c43b0 : decide (x18_2 < (t286.length : Int)) = false := decide_eq_false c43
              clear c43
              have H' := Aside0.mk H
              clear H
              obtain ⟨Ao82, co82, eo82⟩ := Kd.R_slice HO_12.out
              subst eo82
              go_wp2
              go_loopg [21] k2 (fun kq v21 w' => ∃ (x21_3 : Int), v21 = .int .i64 x21_3 ∧ Aside0 (stickfullaw14_FillGreedy.l2 kq l0 t277 x10_1 t287 (decide (t297 ≤ x283000_1)) x21_3 a2_0 a2_1 ((rd_T35 t277 x10_1).f0) ((rd_T35 t277 x10_1).f1) ((rd_T35 t277 x10_1).f2) = some r) ∧ Aside0 (kq ≤ k2) ∧ Aside0 (Kd.R k35 35 w' w.heap.size (fun k_ => k_ ≠ gb285) (.slice (some ad284) t277.length co30) t277) ∧ Aside0 (Kd.R (Kd.int .i64) 3 w' w.heap.size (fun _ => True) v291 t287) ∧ Aside0 (w'.heap[gb274]? = some (.cells #[.int .i64 a1_0, .int .i64 a1_1] 24 (0, 0))) ∧ Aside0 (w'.heap[gb275]? = some (.cells #[.int .i64 a2_0, .int .i64 a2_1] 24 (0, 0))) ∧ Aside0 (w'.heap[gb282]? = some (.cells #[.int .i64 x283000_1, .int .i64 x283001_1] 24 (0, 0))) ∧ Aside0 (w'.heap[gb285]? = some (.cells #[.int .i64 ((rd_T35 t277 x10_1).f0), .int .i64 ((rd_T35 t277 x10_1).f1), .bool ((rd_T35 t277 x10_1).f2)] 35 (0, 0))) ∧ Aside0 (Below w.heap.size w w'))
              case atStart => exact ⟨(0), (by first | rfl | (simp; done) | (simp [*]; done)), H', ⟨Nat.le_refl _⟩, ⟨by (with_reducible repeat (first | apply Kd.R_alloc | apply Kd.R_drewN | apply Kd.R_drew)); exact HO_7.out⟩, ⟨by (with_reducible repeat (first | apply Kd.R_alloc | apply Kd.R_drewN | apply Kd.R_drew)); exact Kd.R_mono HO_13.out (fun _ hk => trivial)⟩, ⟨by (with_reducible repeat (first | refine blk_drewN ?_ _ | refine blk_drew ?_ | refine blk_alloc ?_ _)); exact BK274.out⟩, ⟨by (with_reducible repeat (first | refine blk_drewN ?_ _ | refine blk_drew ?_ | refine blk_alloc ?_ _)); exact BK275.out⟩, ⟨by (with_reducible repeat (first | refine blk_drewN ?_ _ | refine blk_drew ?_ | refine blk_alloc ?_ _)); exact BK282.out⟩, ⟨by (with_reducible repeat (first | refine blk_drewN ?_ _ | refine blk_drew ?_ | refine blk_alloc ?_ _)); exact BK285.out⟩, ⟨by repeat (first | (with_reducible first | exact HB.out | apply below_alloc | apply pw_below_drewN | apply below_drew1 | refine below_set ?_ GE274.out | refine below_set ?_ GE275.out | refine below_set ?_ GE282.out | refine below_set ?_ GE285.out) | exact HB.out)⟩⟩
              case round =>
               clear H'
               try clear p2
               try clear p3
               try clear q3
               try clear hx3
               try clear c4
               try clear c6
               try clear p6
               try clear c7
               try clear p30
               try clear q30
               try clear hx30
               try clear c43
               try clear c43b0
               try clear c44
               try clear c45
               try clear c46
               try clear c47
               try clear c62
               try clear c63
               try clear c64
               try clear c64b0
               try clear p64
               try clear c70
               try clear c70b0
               try clear c72
               try clear c73
               try clear hx307_0
               try clear p307
               try clear q307
               obtain ⟨x21_3, rfl, HA, HK3, HO_7, HO_13, BK274, BK275, BK282, BK285, HB⟩ := hrel
               cases gk with
               | zero => exact absurd HA.out (by simp [stickfullaw14_FillGreedy.l2])
               | succ k3 =>
                have H := HA.out
                clear HA
                simp only [stickfullaw14_FillGreedy.l2] at H
                by_cases c83 : x21_3 < (t287.length : Int)
                ·rw [if_pos c83] at H
                 have c83b0 : decide (x21_3 < (t287.length : Int)) = true := decide_eq_true c83
                 clear c83
                 by_cases c84 : 0 ≤ x21_3
                 ·rw [if_pos c84] at H
                  have c84b0 : decide (0 ≤ x21_3) = true := decide_eq_true c84
                  clear c84
                  by_cases c85 : (rd t287 x21_3) < ((rd_T35 t277 x10_1).f1)
                  ·rw [if_pos c85] at H
                   have c85b0 : decide ((rd t287 x21_3) < ((rd_T35 t277 x10_1).f1)) = true := decide_eq_true c85
                   clear c85
                   by_cases c86 : (decide (t297 ≤ x283000_1)) = true
                   ·rw [if_pos c86] at H
                    have c86b0 : (decide (t297 ≤ x283000_1)) = true := c86
                    clear c86
                    have H' := Aside0.mk H
                    clear H
                    obtain ⟨Ao87, co87, eo87⟩ := Kd.R_slice HO_13.out
                    subst eo87
                    try go_wp2
                    replace HO_7 := Aside0.mk (Kd.R_drew HO_7.out)
                    replace HO_13 := Aside0.mk (Kd.R_drew HO_13.out)
                    replace BK274 := Aside0.mk (blk_drew BK274.out)
                    replace BK275 := Aside0.mk (blk_drew BK275.out)
                    replace BK282 := Aside0.mk (blk_drew BK282.out)
                    replace BK285 := Aside0.mk (blk_drew BK285.out)
                    replace HB := Aside0.mk (below_drew1 HB.out)
                    have p309 : 0 ≤ (x21_3 : Int) := of_decide_eq_true (by first | (with_reducible assumption) | assumption)
                    have q309 : x21_3 < (t287.length : Int) := of_decide_eq_true (by first | (with_reducible assumption) | assumption)
                    obtain ⟨ad309, e309, hx309_0⟩ := Kd.at_int (Kd.R_reads' HO_13.out).2.2 x21_3 p309 q309
                    cases e309
                    replace p309 := eq_true p309
                    replace q309 := eq_true q309
                    refine start_ (n := 11) (S := fun w' => w'.cell? ⟨gb285, 0, none⟩ = some (.int .i64 ((rd_T35 t277 x10_1).f0)) ∧ w'.cell? ⟨gb285, 1, none⟩ = some (.int .i64 ((rd_T35 t277 x10_1).f1)) ∧ w'.cell? ⟨gb285, 2, none⟩ = some (.bool ((rd_T35 t277 x10_1).f2)) ∧ w'.cell? (ad309.add (x21_3).toNat) = some (.int .i64 (rd t287 x21_3))) (ds := []) (stickfullaw14_FillGreedy.bm 11 0) (by kernel_rfl) rfl rfl ⟨bc BK285 0, bc BK285 1, bc BK285 2, hx309_0⟩ (fun hHeld => ?_); refine with_tabW stickfullaw14_FillGreedy.tab27 stickfullaw14_FillGreedy.bits27 (fun HT_ HW_ => ?_)
                    generalize wr.drew = w88 at HO_7 HO_13 BK274 BK275 BK282 BK285 HB hx309_0 hHeld ⊢
                    refine pure_ (i := 0) (N := some 154) (v := ?_) (a' := ?_) (stickfullaw14_FillGreedy.bm 11 1) rfl rfl (any_of HT_.out (by kernel_rfl)) (fun _ _ _ h => h) (Or.inl ⟨by rfl, ?_⟩) ?_ ?_
                    rotate_left; (focus intro w'; go_simp; with_reducible rfl); rotate_left; (focus simp only [Act.put, List.setIfInBounds_toArray, List.set_cons_zero, List.set_cons_succ, i64_w, i32_w]; rfl)
                    refine pure_ (i := 1) (N := some 155) (v := ?_) (a' := ?_) (stickfullaw14_FillGreedy.bm 11 3) rfl rfl (any_of HT_.out (by kernel_rfl)) (fun _ _ _ h => h) (Or.inl ⟨by rfl, ?_⟩) ?_ ?_
                    rotate_left; (focus intro w'; go_simp; with_reducible rfl); rotate_left; (focus simp only [Act.put, List.setIfInBounds_toArray, List.set_cons_zero, List.set_cons_succ, i64_w, i32_w]; rfl)
                    refine pure_ (i := 2) (N := some 156) (v := ?_) (a' := ?_) (stickfullaw14_FillGreedy.bm 11 7) rfl rfl (any_of HT_.out (by kernel_rfl)) (fun _ _ _ h => h) (Or.inl ⟨by rfl, ?_⟩) ?_ ?_
                    rotate_left; (focus intro w'; go_simp; with_reducible rfl); rotate_left; (focus simp only [Act.put, List.setIfInBounds_toArray, List.set_cons_zero, List.set_cons_succ, i64_w, i32_w]; rfl)
                    refine pure_ (i := 4) (N := some 158) (v := ?_) (a' := ?_) (stickfullaw14_FillGreedy.bm 11 23) rfl rfl (any_of HT_.out (by kernel_rfl)) (fun _ _ _ h => h) (Or.inl ⟨by rfl, ?_⟩) ?_ ?_
                    rotate_left; (focus intro w'; go_simp; with_reducible rfl); rotate_left; (focus simp only [Act.put, List.setIfInBounds_toArray, List.set_cons_zero, List.set_cons_succ, i64_w, i32_w]; rfl)
                    refine take_ (i := 3) (N := some 157) (v := ?_) (a' := ?_) (stickfullaw14_FillGreedy.bm 11 31) rfl rfl (take_ofW HT_.out HW_.out (by kernel_rfl)) (fun _ _ _ h => h) (Or.inl ⟨by rfl, ?_⟩) hHeld ?_ ?_
                    rotate_left; (focus rintro w' ⟨s0, s1, s2, s3⟩; go_simp; with_reducible rfl); rotate_left; (focus simp only [Act.put, List.setIfInBounds_toArray, List.set_cons_zero, List.set_cons_succ, i64_w, i32_w]; rfl)
                    refine take_ (i := 5) (N := some 159) (v := ?_) (a' := ?_) (stickfullaw14_FillGreedy.bm 11 63) rfl rfl (take_ofW HT_.out HW_.out (by kernel_rfl)) (fun _ _ _ h => h) (Or.inl ⟨by rfl, ?_⟩) hHeld ?_ ?_
                    rotate_left; (focus rintro w' ⟨s0, s1, s2, s3⟩; go_simp; with_reducible rfl); rotate_left; (focus simp only [Act.put, List.setIfInBounds_toArray, List.set_cons_zero, List.set_cons_succ, i64_w, i32_w]; rfl)
                    refine pure_ (i := 6) (N := some 160) (v := ?_) (a' := ?_) (stickfullaw14_FillGreedy.bm 11 127) rfl rfl (any_of HT_.out (by kernel_rfl)) (fun _ _ _ h => h) (Or.inl ⟨by rfl, ?_⟩) ?_ ?_
                    rotate_left; (focus intro w'; go_simp; with_reducible rfl); rotate_left; (focus simp only [Act.put, List.setIfInBounds_toArray, List.set_cons_zero, List.set_cons_succ, i64_w, i32_w]; rfl)
                    refine pure_ (i := 7) (N := some 161) (v := ?_) (a' := ?_) (stickfullaw14_FillGreedy.bm 11 255) rfl rfl (any_of HT_.out (by kernel_rfl)) (fun _ _ _ h => h) (Or.inl ⟨by rfl, ?_⟩) ?_ ?_
                    rotate_left; (focus intro w'; go_simp; with_reducible rfl); rotate_left; (focus simp only [Act.put, List.setIfInBounds_toArray, List.set_cons_zero, List.set_cons_succ, i64_w, i32_w]; rfl)
                    refine pure_ (i := 8) (N := some 162) (v := ?_) (a' := ?_) (stickfullaw14_FillGreedy.bm 11 511) rfl rfl (any_of HT_.out (by kernel_rfl)) (fun _ _ _ h => h) (Or.inl ⟨by rfl, ?_⟩) ?_ ?_
                    rotate_left; (focus intro w'; go_simp; with_reducible rfl); rotate_left; (focus simp only [Act.put, List.setIfInBounds_toArray, List.set_cons_zero, List.set_cons_succ, i64_w, i32_w]; rfl)
                    refine pure_ (i := 9) (N := some 163) (v := ?_) (a' := ?_) (stickfullaw14_FillGreedy.bm 11 1023) rfl rfl (any_of HT_.out (by kernel_rfl)) (fun _ _ _ h => h) (Or.inl ⟨by rfl, ?_⟩) ?_ ?_
                    rotate_left; (focus intro w'; go_simp; with_reducible rfl); rotate_left; (focus simp only [Act.put, List.setIfInBounds_toArray, List.set_cons_zero, List.set_cons_succ, i64_w, i32_w]; rfl)
                    refine pure_ (i := 10) (N := some 164) (v := ?_) (a' := ?_) (stickfullaw14_FillGreedy.bm 11 2047) rfl rfl (any_of HT_.out (by kernel_rfl)) (fun _ _ _ h => h) (Or.inl ⟨by rfl, ?_⟩) ?_ ?_
                    rotate_left; (focus intro w'; go_simp; with_reducible rfl); rotate_left; (focus simp only [Act.put, List.setIfInBounds_toArray, List.set_cons_zero, List.set_cons_succ, i64_w, i32_w]; rfl)
                    refine done_ (done_of HT_.out (by kernel_rfl)) ?_
                    try go_wp2
                    refine Handed.intro k3 ?measure ?_; rotate_left; go_step; (repeat apply Exists.intro); refine ⟨?rel, ?eq_⟩
                    case eq_ => first | rfl | rw [c86b0] | simp only [c86b0]
                    case measure => have := HK1.out; have := HK2.out; have := HK3.out; omega
                    case rel => exact ⟨(wrap64 (x21_3 + 1)), (by first | rfl | (simp; done) | (simp [*]; done)), H', ⟨by have := HK1.out; have := HK2.out; have := HK3.out; omega⟩, ⟨by (with_reducible repeat (first | apply Kd.R_alloc | apply Kd.R_drewN | apply Kd.R_drew)); exact HO_7.out⟩, ⟨by (with_reducible repeat (first | apply Kd.R_alloc | apply Kd.R_drewN | apply Kd.R_drew)); exact HO_13.out⟩, ⟨by (with_reducible repeat (first | refine blk_drewN ?_ _ | refine blk_drew ?_ | refine blk_alloc ?_ _)); exact BK274.out⟩, ⟨by (with_reducible repeat (first | refine blk_drewN ?_ _ | refine blk_drew ?_ | refine blk_alloc ?_ _)); exact BK275.out⟩, ⟨by (with_reducible repeat (first | refine blk_drewN ?_ _ | refine blk_drew ?_ | refine blk_alloc ?_ _)); exact BK282.out⟩, ⟨by (with_reducible repeat (first | refine blk_drewN ?_ _ | refine blk_drew ?_ | refine blk_alloc ?_ _)); exact BK285.out⟩, ⟨by repeat (first | (with_reducible first | exact HB.out | apply below_alloc | apply pw_below_drewN | apply below_drew1 | refine below_set ?_ GE274.out | refine below_set ?_ GE275.out | refine below_set ?_ GE282.out | refine below_set ?_ GE285.out) | exact HB.out)⟩⟩
                   ·rw [if_neg c86] at H
                    have c86b0 : (decide (t297 ≤ x283000_1)) = false := by simpa using c86
                    clear c86
                    exact absurd ((Option.some.inj H).trans HR_.out) (by decide)
                  ·rw [if_neg c85] at H
                   have c85b0 : decide ((rd t287 x21_3) < ((rd_T35 t277 x10_1).f1)) = false := decide_eq_false c85
                   clear c85
                   have H' := Aside0.mk H
                   clear H
                   obtain ⟨Ao89, co89, eo89⟩ := Kd.R_slice HO_13.out
                   subst eo89
                   try go_wp2
                   replace HO_7 := Aside0.mk (Kd.R_drew HO_7.out)
                   replace HO_13 := Aside0.mk (Kd.R_drew HO_13.out)
                   replace BK274 := Aside0.mk (blk_drew BK274.out)
                   replace BK275 := Aside0.mk (blk_drew BK275.out)
                   replace BK282 := Aside0.mk (blk_drew BK282.out)
                   replace BK285 := Aside0.mk (blk_drew BK285.out)
                   replace HB := Aside0.mk (below_drew1 HB.out)
                   have p309 : 0 ≤ (x21_3 : Int) := of_decide_eq_true (by first | (with_reducible assumption) | assumption)
                   have q309 : x21_3 < (t287.length : Int) := of_decide_eq_true (by first | (with_reducible assumption) | assumption)
                   obtain ⟨ad309, e309, hx309_0⟩ := Kd.at_int (Kd.R_reads' HO_13.out).2.2 x21_3 p309 q309
                   cases e309
                   replace p309 := eq_true p309
                   replace q309 := eq_true q309
                   refine start_ (n := 11) (S := fun w' => w'.cell? ⟨gb285, 0, none⟩ = some (.int .i64 ((rd_T35 t277 x10_1).f0)) ∧ w'.cell? ⟨gb285, 1, none⟩ = some (.int .i64 ((rd_T35 t277 x10_1).f1)) ∧ w'.cell? ⟨gb285, 2, none⟩ = some (.bool ((rd_T35 t277 x10_1).f2)) ∧ w'.cell? (ad309.add (x21_3).toNat) = some (.int .i64 (rd t287 x21_3))) (ds := []) (stickfullaw14_FillGreedy.bm 11 0) (by kernel_rfl) rfl rfl ⟨bc BK285 0, bc BK285 1, bc BK285 2, hx309_0⟩ (fun hHeld => ?_); refine with_tabW stickfullaw14_FillGreedy.tab27 stickfullaw14_FillGreedy.bits27 (fun HT_ HW_ => ?_)
                   generalize wr.drew = w90 at HO_7 HO_13 BK274 BK275 BK282 BK285 HB hx309_0 hHeld ⊢
                   refine pure_ (i := 0) (N := some 154) (v := ?_) (a' := ?_) (stickfullaw14_FillGreedy.bm 11 1) rfl rfl (any_of HT_.out (by kernel_rfl)) (fun _ _ _ h => h) (Or.inl ⟨by rfl, ?_⟩) ?_ ?_
                   rotate_left; (focus intro w'; go_simp; with_reducible rfl); rotate_left; (focus simp only [Act.put, List.setIfInBounds_toArray, List.set_cons_zero, List.set_cons_succ, i64_w, i32_w]; rfl)
                   refine pure_ (i := 1) (N := some 155) (v := ?_) (a' := ?_) (stickfullaw14_FillGreedy.bm 11 3) rfl rfl (any_of HT_.out (by kernel_rfl)) (fun _ _ _ h => h) (Or.inl ⟨by rfl, ?_⟩) ?_ ?_
                   rotate_left; (focus intro w'; go_simp; with_reducible rfl); rotate_left; (focus simp only [Act.put, List.setIfInBounds_toArray, List.set_cons_zero, List.set_cons_succ, i64_w, i32_w]; rfl)
                   refine pure_ (i := 2) (N := some 156) (v := ?_) (a' := ?_) (stickfullaw14_FillGreedy.bm 11 7) rfl rfl (any_of HT_.out (by kernel_rfl)) (fun _ _ _ h => h) (Or.inl ⟨by rfl, ?_⟩) ?_ ?_
                   rotate_left; (focus intro w'; go_simp; with_reducible rfl); rotate_left; (focus simp only [Act.put, List.setIfInBounds_toArray, List.set_cons_zero, List.set_cons_succ, i64_w, i32_w]; rfl)
                   refine pure_ (i := 4) (N := some 158) (v := ?_) (a' := ?_) (stickfullaw14_FillGreedy.bm 11 23) rfl rfl (any_of HT_.out (by kernel_rfl)) (fun _ _ _ h => h) (Or.inl ⟨by rfl, ?_⟩) ?_ ?_
                   rotate_left; (focus intro w'; go_simp; with_reducible rfl); rotate_left; (focus simp only [Act.put, List.setIfInBounds_toArray, List.set_cons_zero, List.set_cons_succ, i64_w, i32_w]; rfl)
                   refine take_ (i := 3) (N := some 157) (v := ?_) (a' := ?_) (stickfullaw14_FillGreedy.bm 11 31) rfl rfl (take_ofW HT_.out HW_.out (by kernel_rfl)) (fun _ _ _ h => h) (Or.inl ⟨by rfl, ?_⟩) hHeld ?_ ?_
                   rotate_left; (focus rintro w' ⟨s0, s1, s2, s3⟩; go_simp; with_reducible rfl); rotate_left; (focus simp only [Act.put, List.setIfInBounds_toArray, List.set_cons_zero, List.set_cons_succ, i64_w, i32_w]; rfl)
                   refine take_ (i := 5) (N := some 159) (v := ?_) (a' := ?_) (stickfullaw14_FillGreedy.bm 11 63) rfl rfl (take_ofW HT_.out HW_.out (by kernel_rfl)) (fun _ _ _ h => h) (Or.inl ⟨by rfl, ?_⟩) hHeld ?_ ?_
                   rotate_left; (focus rintro w' ⟨s0, s1, s2, s3⟩; go_simp; with_reducible rfl); rotate_left; (focus simp only [Act.put, List.setIfInBounds_toArray, List.set_cons_zero, List.set_cons_succ, i64_w, i32_w]; rfl)
                   refine pure_ (i := 6) (N := some 160) (v := ?_) (a' := ?_) (stickfullaw14_FillGreedy.bm 11 127) rfl rfl (any_of HT_.out (by kernel_rfl)) (fun _ _ _ h => h) (Or.inl ⟨by rfl, ?_⟩) ?_ ?_
                   rotate_left; (focus intro w'; go_simp; with_reducible rfl); rotate_left; (focus simp only [Act.put, List.setIfInBounds_toArray, List.set_cons_zero, List.set_cons_succ, i64_w, i32_w]; rfl)
                   refine pure_ (i := 7) (N := some 161) (v := ?_) (a' := ?_) (stickfullaw14_FillGreedy.bm 11 255) rfl rfl (any_of HT_.out (by kernel_rfl)) (fun _ _ _ h => h) (Or.inl ⟨by rfl, ?_⟩) ?_ ?_
                   rotate_left; (focus intro w'; go_simp; with_reducible rfl); rotate_left; (focus simp only [Act.put, List.setIfInBounds_toArray, List.set_cons_zero, List.set_cons_succ, i64_w, i32_w]; rfl)
                   refine pure_ (i := 8) (N := some 162) (v := undef) (a' := ?_) (stickfullaw14_FillGreedy.bm 11 511) rfl rfl (any_of HT_.out (by kernel_rfl)) (fun _ _ _ h => h) (Or.inr ⟨by rfl, rfl⟩) ?_ ?_
                   rotate_left; (focus simp only [Act.put, List.setIfInBounds_toArray, List.set_cons_zero, List.set_cons_succ, i64_w, i32_w]; rfl)
                   refine pure_ (i := 9) (N := some 163) (v := undef) (a' := ?_) (stickfullaw14_FillGreedy.bm 11 1023) rfl rfl (any_of HT_.out (by kernel_rfl)) (fun _ _ _ h => h) (Or.inr ⟨by rfl, rfl⟩) ?_ ?_
                   rotate_left; (focus simp only [Act.put, List.setIfInBounds_toArray, List.set_cons_zero, List.set_cons_succ, i64_w, i32_w]; rfl)
                   refine pure_ (i := 10) (N := some 164) (v := ?_) (a' := ?_) (stickfullaw14_FillGreedy.bm 11 2047) rfl rfl (any_of HT_.out (by kernel_rfl)) (fun _ _ _ h => h) (Or.inl ⟨by rfl, ?_⟩) ?_ ?_
                   rotate_left; (focus intro w'; go_simp; with_reducible rfl); rotate_left; (focus simp only [Act.put, List.setIfInBounds_toArray, List.set_cons_zero, List.set_cons_succ, i64_w, i32_w]; rfl)
                   refine done_ (done_of HT_.out (by kernel_rfl)) ?_
                   try go_wp2
                   go_roundg k3
                   case measure => have := HK1.out; have := HK2.out; have := HK3.out; omega
                   case rel => exact ⟨(wrap64 (x21_3 + 1)), (by first | rfl | (simp; done) | (simp [*]; done)), H', ⟨by have := HK1.out; have := HK2.out; have := HK3.out; omega⟩, ⟨by (with_reducible repeat (first | apply Kd.R_alloc | apply Kd.R_drewN | apply Kd.R_drew)); exact HO_7.out⟩, ⟨by (with_reducible repeat (first | apply Kd.R_alloc | apply Kd.R_drewN | apply Kd.R_drew)); exact HO_13.out⟩, ⟨by (with_reducible repeat (first | refine blk_drewN ?_ _ | refine blk_drew ?_ | refine blk_alloc ?_ _)); exact BK274.out⟩, ⟨by (with_reducible repeat (first | refine blk_drewN ?_ _ | refine blk_drew ?_ | refine blk_alloc ?_ _)); exact BK275.out⟩, ⟨by (with_reducible repeat (first | refine blk_drewN ?_ _ | refine blk_drew ?_ | refine blk_alloc ?_ _)); exact BK282.out⟩, ⟨by (with_reducible repeat (first | refine blk_drewN ?_ _ | refine blk_drew ?_ | refine blk_alloc ?_ _)); exact BK285.out⟩, ⟨by repeat (first | (with_reducible first | exact HB.out | apply below_alloc | apply pw_below_drewN | apply below_drew1 | refine below_set ?_ GE274.out | refine below_set ?_ GE275.out | refine below_set ?_ GE282.out | refine below_set ?_ GE285.out) | exact HB.out)⟩⟩
                 ·rw [if_neg c84] at H
                  exact absurd H (by simp)
                ·rw [if_neg c83] at H
                 have c83b0 : decide (x21_3 < (t287.length : Int)) = false := decide_eq_false c83
                 clear c83
                 have H' := Aside0.mk H
                 clear H
                 obtain ⟨Ao91, co91, eo91⟩ := Kd.R_slice HO_13.out
                 subst eo91
                 have hnb92 := NB275_274.out
                 have hnc92 := NB274_275.out
                 have hnb93 := NB275_282.out
                 have hnc93 := NB282_275.out
                 have hnb94 := NB275_285.out
                 have hnc94 := NB285_275.out
                 obtain ⟨hcz95_0, hcz95_1⟩ := cz2 BK275
                 obtain ⟨hfz95_0, hfz95_1⟩ := fz2 BK275
                 have hnb96 := NB282_274.out
                 have hnc96 := NB274_282.out
                 have hnb97 := NB282_285.out
                 have hnc97 := NB285_282.out
                 obtain ⟨hcz98_0, hcz98_1⟩ := cz2 BK282
                 obtain ⟨hfz98_0, hfz98_1⟩ := fz2 BK282
                 go_wp2
                 go_roundg k3
                 case measure => have := HK1.out; have := HK2.out; have := HK3.out; omega
                 case rel => exact ⟨(wrap64 (x10_1 + 1)), (a2_0), (a2_1), (by first | rfl | (simp; done) | (simp [*]; done)), H', ⟨by have := HK1.out; have := HK2.out; have := HK3.out; omega⟩, ⟨by (with_reducible repeat (first | apply Kd.R_alloc | apply Kd.R_drewN | apply Kd.R_drew)); exact Kd.R_mono (Kd.R_far (p := ⟨gb282, 1, none⟩) (Kd.R_far (p := ⟨gb282, 0, none⟩) (Kd.R_types HO_7.out BK282.out (by decide)) (fun _ hk => hk.2) (.int .i64 a2_0)) (fun _ hk => hk.2) (.int .i64 a2_1)) (fun _ hk => trivial)⟩, ⟨by (with_reducible repeat (first | refine blk_drewN ?_ _ | refine blk_drew ?_ | refine blk_alloc ?_ _)); refine blk_far ?_ NB274_282.out _; (with_reducible repeat (first | refine blk_drewN ?_ _ | refine blk_drew ?_ | refine blk_alloc ?_ _)); refine blk_far ?_ NB274_282.out _; (with_reducible repeat (first | refine blk_drewN ?_ _ | refine blk_drew ?_ | refine blk_alloc ?_ _)); exact BK274.out⟩, ⟨by (with_reducible repeat (first | refine blk_drewN ?_ _ | refine blk_drew ?_ | refine blk_alloc ?_ _)); refine blk_far ?_ NB275_282.out _; (with_reducible repeat (first | refine blk_drewN ?_ _ | refine blk_drew ?_ | refine blk_alloc ?_ _)); refine blk_far ?_ NB275_282.out _; (with_reducible repeat (first | refine blk_drewN ?_ _ | refine blk_drew ?_ | refine blk_alloc ?_ _)); exact BK275.out⟩, ⟨by (with_reducible repeat (first | refine blk_drewN ?_ _ | refine blk_drew ?_ | refine blk_alloc ?_ _)); refine blk_put (cs := #[.int .i64 a2_0, .int .i64 x283001_1]) ?_ 1 _ rfl; (with_reducible repeat (first | refine blk_drewN ?_ _ | refine blk_drew ?_ | refine blk_alloc ?_ _)); refine blk_put (cs := #[.int .i64 x283000_1, .int .i64 x283001_1]) ?_ 0 _ rfl; (with_reducible repeat (first | refine blk_drewN ?_ _ | refine blk_drew ?_ | refine blk_alloc ?_ _)); exact BK282.out⟩, ⟨by repeat (first | (with_reducible first | exact HB.out | apply below_alloc | apply pw_below_drewN | apply below_drew1 | refine below_set ?_ GE274.out | refine below_set ?_ GE275.out | refine below_set ?_ GE282.out | refine below_set ?_ GE285.out) | exact HB.out)⟩⟩
          ·rw [if_neg c29] at H
           have c29b0 : (t298 == 0) = false := beq_eq_false_iff_ne.mpr c29
           have c29b1 : (t298 != 0) = true := bne_iff_ne.mpr c29
           exact absurd ((Option.some.inj H).trans HR_.out) (by decide)
         ·rw [if_neg c27] at H
          exact absurd H (by simp)
        ·rw [if_neg c26] at H
         exact absurd H (by simp)
       ·rw [if_neg c25] at H
        exact absurd H (by simp)
      ·rw [if_neg c23] at H
       exact absurd H (by simp)
     ·rw [if_neg c22] at H
      have c22b0 : decide (x10_1 < (t277.length : Int)) = false := decide_eq_false c22
      clear c22
      replace H := Option.bind_eq_some_iff.mp H
      obtain ⟨t283, A990, H⟩ := H
      replace H : (some t283) = some r := H
      have A99 := Aside0.mk A990
      clear A990
      obtain rfl := Option.some.inj H
      obtain ⟨Ao100, co100, eo100⟩ := Kd.R_slice HO_7.out
      subst eo100
      go_wp2_with (first | ((with_reducible refine gate_callee (f := 8) rfl ?_); refine goesB (some 166) rfl rfl Try.func8 #[] rfl ?_; (with_reducible refine (stickfullaw14_head.calls k1  t283 _ A99.out).mono ?_); rintro e w101 ⟨rfl, hb⟩; refine ⟨_, rfl, ?_⟩; replace HO_7 := Aside0.mk (Kd.R_below (rx HO_7) hb); replace BK274 := bb BK274 hb; replace BK275 := bb BK275 hb; replace BK282 := bb BK282 hb; replace HB := bh HB hb; (try clear hb); (try clear hb2); (try clear hk); (try clear hi)))
      go_ret
      exact ⟨by first | rfl | (simp [errW_none, errW_some] <;> rfl) | (simp [*, errW_none, errW_some] <;> rfl), by repeat (first | (with_reducible first | exact HB.out | apply below_alloc | apply pw_below_drewN | apply below_drew1 | refine below_set ?_ GE274.out | refine below_set ?_ GE275.out | refine below_set ?_ GE282.out) | exact HB.out)⟩
  ·rw [if_neg c10] at H
   have c10b0 : (t280 == 0) = false := beq_eq_false_iff_ne.mpr c10
   have c10b1 : (t280 != 0) = true := bne_iff_ne.mpr c10
   replace H := Option.bind_eq_some_iff.mp H
   obtain ⟨t281, A1020, H⟩ := H
   replace H : (some t281) = some r := H
   have A102 := Aside0.mk A1020
   clear A1020
   obtain rfl := Option.some.inj H
   go_enter Try.func5, Try.ntmps5
   go_wp2_with (first | ((with_reducible refine gate_dst (N := 4) rfl ?_); refine box_event ?hg (N := 4) ?hd (cs := #[.int .i64 a1_0, .int .i64 a1_1]) (t := 24) ?hr ?_; (case hd => rfl); (case hg => rfl); (case hr => first | (go_simp; done) | (go_simp; rfl)); intro gb274 hg w103 hbox hb; have BK274 := Aside0.mk (hbox); have GW274 := bge HB hg; have GE274 := bge HB hg; replace HB := bh HB hb; clear hb hbox hg) | ((with_reducible refine gate_dst (N := 5) rfl ?_); refine box_event ?hg (N := 5) ?hd (cs := #[.int .i64 a2_0, .int .i64 a2_1]) (t := 24) ?hr ?_; (case hd => rfl); (case hg => rfl); (case hr => first | (go_simp; done) | (go_simp; rfl)); intro gb275 hg w104 hbox hb; have BK275 := Aside0.mk (hbox); have GW275 := bge HB hg; have GE275 := bge HB hg; replace HB := bh HB hb; have NB274_275 := nbl BK274 hg; have NB275_274 := nbg BK274 hg; replace BK274 := bb BK274 hb; clear hb hbox hg; have hnb105 := NB274_275.out; have hnc105 := NB275_274.out; obtain ⟨hcz106_0, hcz106_1⟩ := cz2 BK274; obtain ⟨hfz106_0, hfz106_1⟩ := fz2 BK274; obtain ⟨hcz107_0, hcz107_1⟩ := cz2 BK275; obtain ⟨hfz107_0, hfz107_1⟩ := fz2 BK275) | ((with_reducible refine gate_callee (f := 9) rfl ?_); refine goesB (some 30) rfl rfl Try.func9 #[.slice A0 l0.length c0, .agg #[.int .i64 a1_0, .int .i64 a1_1], .agg #[.int .i64 a2_0, .int .i64 a2_1]] rfl ?_; (with_reducible refine (fill_Lines.calls k _ _ l0 a1_0 a1_1 a2_0 a2_1 t277 t280 _ ?side1 ?side2 A9.out).mono ?_); (case side1 => repeat (first | exact (Kd.C_below HR0.out HB.out) | (with_reducible refine Kd.C_alloc ?_ _) | (with_reducible refine Kd.C_drewN ?_ _) | (with_reducible refine Kd.C_drew ?_))); (case side2 => exact HC0.out); rintro e w108 ⟨v278, rfl, ho0, hb⟩; refine ⟨_, rfl, ?_⟩; have HO279 := Aside0.mk (Kd.R_lower ho0 (below_size (bw HB))); replace BK274 := bb BK274 hb; replace BK275 := bb BK275 hb; replace HB := bh HB hb; (try clear hb); (try clear hb2); (try clear hk); (try clear hi); (try clear ho0)) | ((with_reducible refine gate_callee (f := 8) rfl ?_); refine goesB (some 35) rfl rfl Try.func8 #[] rfl ?_; (with_reducible refine (stickfullaw14_head.calls k  t281 _ A102.out).mono ?_); rintro e w109 ⟨rfl, hb⟩; refine ⟨_, rfl, ?_⟩; replace HO279 := Aside0.mk (Kd.R_below (rx HO279) hb); replace BK274 := bb BK274 hb; replace BK275 := bb BK275 hb; replace HB := bh HB hb; (try clear hb); (try clear hb2); (try clear hk); (try clear hi)))
   go_ret
   exact ⟨by first | rfl | (simp [errW_none, errW_some] <;> rfl) | (simp [*, errW_none, errW_some] <;> rfl), by repeat (first | (with_reducible first | exact HB.out | apply below_alloc | apply pw_below_drewN | apply below_drew1 | refine below_set ?_ GE274.out | refine below_set ?_ GE275.out) | exact HB.out)⟩

end Go.Proofs.Ytagdaniakfpnfaa.HFillC
