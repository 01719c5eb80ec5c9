-- Written by this claim's own program over the kit's print.
import Derived.Test.YtdmlnkgpjileaaaM3
import Derived.Test.YtdmlnkgpjileaaaHFirstCx18
import Derived.Test.YtdmlnkgpjileaaaHFirstCx20
import Derived.Test.YtdmlnkgpjileaaaHFirstCx21
import Derived.Test.YtdmlnkgpjileaaaHFirstCx22
import Derived.Test.YtdmlnkgpjileaaaM2
import Derived.StillTailTactics
import Derived.Laws.Externs
import Derived.BigFrameIn
import Derived.Lib.Hide
import Derived.Sort.LoopGhostIn
import Derived.BigQuiet
namespace Go.Proofs.Ytdmlnkgpjileaaa.HFirstC
open Go.RowKit Go.Proofs.YtdmlnkgpjileaaaW.PrintWords Go.Proofs.YtdmlnkgpjileaaaW.PrintLast Go.Proofs.YtdmlnkgpjileaaaW.PrintMore Go.Proofs.Ytdmlnkgpjileaaa.Hand
attribute [local go_sem] max2_int min2_int max_two min_two max_three min_three max_four min_four   -- for this text's walks alone
set_option linter.unusedVariables false
set_option linter.unusedSimpArgs false

/-- Which operations have been taken: the bits of a number. -/
def stickfullaw15_FirstCells.bits : Nat → Nat → List Bool
 | 0, _ => []
 | n + 1, m => Nat.beq (m % 2) 1 :: stickfullaw15_FirstCells.bits n (m / 2)
def stickfullaw15_FirstCells.bm (n m : Nat) : Array Bool := (stickfullaw15_FirstCells.bits n m).toArray
/-! ### stickfullaw15_FirstCells: function 4 -/
mutual
def stickfullaw15_FirstCells.j0 : Nat → List (S43) → Bool → List (S46) → List (S46) → Int → Int → Int → Int → Option (Bool)
 | 0, _, _, _, _, _, _, _, _ => none
 | k + 1, x1, x23, x242000, x242001, x242002, x242003, x242004, x242005 => if x23 = true then ((stickfullaw15_head.f k).bind fun t243 => (some t243)) else ((first_Cells.f x242000 x242001 x1).bind fun bt244 => ((stickfulref15_Cells.f k x242000 x242001 x1).bind fun bt248 => (if bt244.2 = bt248.2 then (stickfullaw15_FirstCells.j1 k bt244.1 bt248.1 ((bt244.1.length : Int) != (bt248.1.length : Int)) x242000 x242001 x242002 x242003 x242004 x242005) else (stickfullaw15_FirstCells.j1 k bt244.1 bt248.1 true x242000 x242001 x242002 x242003 x242004 x242005))))
def stickfullaw15_FirstCells.j1 : Nat → List (List (S46)) → List (List (S46)) → Bool → List (S46) → List (S46) → Int → Int → Int → Int → Option (Bool)
 | 0, _, _, _, _, _, _, _, _, _ => none
 | k + 1, x5, x7, x52, x242000, x242001, x242002, x242003, x242004, x242005 => if x52 = true then (some false) else (stickfullaw15_FirstCells.l0 k x5 x7 0 x242000 x242001 x242002 x242003 x242004 x242005)
def stickfullaw15_FirstCells.l0 : Nat → List (List (S46)) → List (List (S46)) → Int → List (S46) → List (S46) → Int → Int → Int → Int → Option (Bool)
 | 0, _, _, _, _, _, _, _, _, _ => none
 | k + 1, x5, x7, x9, x242000, x242001, x242002, x242003, x242004, x242005 => if x9 < (x5.length : Int) then (if 0 ≤ x9 then (if x9 < (x7.length : Int) then ((stickfulref11_Same.f k (rd_L4 x5 x9) (rd_L4 x7 x9)).bind fun t254 => (if t254 = true then (stickfullaw15_FirstCells.l0 k x5 x7 (wrap64 (x9 + 1)) x242000 x242001 x242002 x242003 x242004 x242005) else (some false))) else (none)) else (none)) else ((first_Lines.f k x242000 x242001 x242002 x242003 x242004 x242005).bind fun bt255 => (if bt255.2 = 0 then (stickfullaw15_FirstCells.j3 k bt255.1 bt255.2 ((bt255.1.length : Int) == 0) x242000 x242001 x242002 x242003 x242004 x242005) else (stickfullaw15_FirstCells.j3 k bt255.1 bt255.2 true x242000 x242001 x242002 x242003 x242004 x242005)))
def stickfullaw15_FirstCells.j3 : Nat → List (S43) → Int → Bool → List (S46) → List (S46) → Int → Int → Int → Int → Option (Bool)
 | 0, _, _, _, _, _, _, _, _, _ => none
 | k + 1, x10, x11, x87, x242000, x242001, x242002, x242003, x242004, x242005 => if x87 = true then (if x11 = 0 then (some false) else ((stickfullaw15_head.f k).bind fun t259 => (some t259))) else ((first_Cells.f x242000 x242001 x10).bind fun bt260 => (if bt260.2 = 0 then (stickfullaw15_FirstCells.j4 k x10 bt260.1 ((bt260.1.length : Int) != (x10.length : Int)) x242000 x242001 x242002 x242003 x242004 x242005) else (stickfullaw15_FirstCells.j4 k x10 bt260.1 true x242000 x242001 x242002 x242003 x242004 x242005)))
def stickfullaw15_FirstCells.j4 : Nat → List (S43) → List (List (S46)) → Bool → List (S46) → List (S46) → Int → Int → Int → Int → Option (Bool)
 | 0, _, _, _, _, _, _, _, _, _ => none
 | k + 1, x10, x12, x110, x242000, x242001, x242002, x242003, x242004, x242005 => if x110 = true then (some false) else (stickfullaw15_FirstCells.l1 k x10 x12 ([] : List (S46)) 0 x242000 x242001 x242002 x242003 x242004 x242005)
def stickfullaw15_FirstCells.l1 : Nat → List (S43) → List (List (S46)) → List (S46) → Int → List (S46) → List (S46) → Int → Int → Int → Int → Option (Bool)
 | 0, _, _, _, _, _, _, _, _, _, _ => none
 | k + 1, x10, x12, x14, x15, x242000, x242001, x242002, x242003, x242004, x242005 => if x15 < (x12.length : Int) then (if 0 ≤ x15 then (if x14.length + (rd_L4 x12 x15).length < 3518437208883 then (stickfullaw15_FirstCells.l1 k x10 x12 (x14 ++ (rd_L4 x12 x15)) (wrap64 (x15 + 1)) x242000 x242001 x242002 x242003 x242004 x242005) else (none)) else (none)) else (if 0 < (x10.length : Int) then (if ((rd_T43 x10 0).f1) < 0 then (stickfullaw15_FirstCells.j6 k x14 ((rd_T43 x10 0).f1) true x242000 x242001 x242002 x242003 x242004 x242005) else (stickfullaw15_FirstCells.j6 k x14 ((rd_T43 x10 0).f1) (decide (((rd_T43 x10 0).f1) > (x242000.length : Int))) x242000 x242001 x242002 x242003 x242004 x242005)) else (none))
def stickfullaw15_FirstCells.j6 : Nat → List (S46) → Int → Bool → List (S46) → List (S46) → Int → Int → Int → Int → Option (Bool)
 | 0, _, _, _, _, _, _, _, _, _ => none
 | k + 1, x14, x16, x135, x242000, x242001, x242002, x242003, x242004, x242005 => if x135 = true then (some false) else ((some (([] : List (S46)) : List (S46))).bind fun y269 => (if 0 ≤ x16 then (if x16 ≤ (x242000.length : Int) then ((some (x242000.take (x16 : Int).toNat : List (S46))).bind fun y272 => (if y269.length + y272.length < 3518437208883 then ((some (y269 ++ y272 : List (S46))).bind fun y276 => (if x16 ≤ (x242001.length : Int) then ((some (x242001.drop (x16 : Int).toNat : List (S46))).bind fun y279 => (if y276.length + y279.length < 3518437208883 then ((stickfulref11_Same.f k x14 (y276 ++ y279)).bind fun t286 => (if t286 = true then ((stickfullaw15_head.f k).bind fun t287 => (some t287)) else (some false))) else (none))) else (none))) else (none))) else (none)) else (none)))
end
def stickfullaw15_FirstCells.f (k : Nat) (l0_0 : List (S46)) (l0_1 : List (S46)) (a0_2 a0_3 a0_4 a0_5 : Int) (l1 : List (S43)) : Option (Bool) := (stickfullaw15_great.f l0_0 l0_1 a0_2 a0_3 a0_4 a0_5).bind fun t242 => (if t242 = true then (stickfullaw15_FirstCells.j0 k l1 true l0_0 l0_1 a0_2 a0_3 a0_4 a0_5) else (stickfullaw15_FirstCells.j0 k l1 (decide ((l1.length : Int) > 100)) l0_0 l0_1 a0_2 a0_3 a0_4 a0_5))
theorem stickfullaw15_FirstCells.mono_l : ∀ k, (∀ y0 y1 y2 y3 y4 y5 y6 y7, LeO (stickfullaw15_FirstCells.j0 k y0 y1 y2 y3 y4 y5 y6 y7) (stickfullaw15_FirstCells.j0 (k + 1) y0 y1 y2 y3 y4 y5 y6 y7)) ∧ (∀ y0 y1 y2 y3 y4 y5 y6 y7 y8, LeO (stickfullaw15_FirstCells.j1 k y0 y1 y2 y3 y4 y5 y6 y7 y8) (stickfullaw15_FirstCells.j1 (k + 1) y0 y1 y2 y3 y4 y5 y6 y7 y8)) ∧ (∀ y0 y1 y2 y3 y4 y5 y6 y7 y8, LeO (stickfullaw15_FirstCells.l0 k y0 y1 y2 y3 y4 y5 y6 y7 y8) (stickfullaw15_FirstCells.l0 (k + 1) y0 y1 y2 y3 y4 y5 y6 y7 y8)) ∧ (∀ y0 y1 y2 y3 y4 y5 y6 y7 y8, LeO (stickfullaw15_FirstCells.j3 k y0 y1 y2 y3 y4 y5 y6 y7 y8) (stickfullaw15_FirstCells.j3 (k + 1) y0 y1 y2 y3 y4 y5 y6 y7 y8)) ∧ (∀ y0 y1 y2 y3 y4 y5 y6 y7 y8, LeO (stickfullaw15_FirstCells.j4 k y0 y1 y2 y3 y4 y5 y6 y7 y8) (stickfullaw15_FirstCells.j4 (k + 1) y0 y1 y2 y3 y4 y5 y6 y7 y8)) ∧ (∀ y0 y1 y2 y3 y4 y5 y6 y7 y8 y9, LeO (stickfullaw15_FirstCells.l1 k y0 y1 y2 y3 y4 y5 y6 y7 y8 y9) (stickfullaw15_FirstCells.l1 (k + 1) y0 y1 y2 y3 y4 y5 y6 y7 y8 y9)) ∧ (∀ y0 y1 y2 y3 y4 y5 y6 y7 y8, LeO (stickfullaw15_FirstCells.j6 k y0 y1 y2 y3 y4 y5 y6 y7 y8) (stickfullaw15_FirstCells.j6 (k + 1) y0 y1 y2 y3 y4 y5 y6 y7 y8))
 | 0 => ⟨fun _ _ _ _ _ _ _ _ r h => by simp [stickfullaw15_FirstCells.j0] at h, fun _ _ _ _ _ _ _ _ _ r h => by simp [stickfullaw15_FirstCells.j1] at h, fun _ _ _ _ _ _ _ _ _ r h => by simp [stickfullaw15_FirstCells.l0] at h, fun _ _ _ _ _ _ _ _ _ r h => by simp [stickfullaw15_FirstCells.j3] at h, fun _ _ _ _ _ _ _ _ _ r h => by simp [stickfullaw15_FirstCells.j4] at h, fun _ _ _ _ _ _ _ _ _ _ r h => by simp [stickfullaw15_FirstCells.l1] at h, fun _ _ _ _ _ _ _ _ _ r h => by simp [stickfullaw15_FirstCells.j6] at h⟩
 | k + 1 => by
  obtain ⟨ih0, ih1, ih2, ih3, ih4, ih5, ih6⟩ := stickfullaw15_FirstCells.mono_l k
  refine ⟨?_, ?_, ?_, ?_, ?_, ?_, ?_⟩
  ·intro y0 y1 y2 y3 y4 y5 y6 y7
   unfold stickfullaw15_FirstCells.j0
   repeat' first
   | (with_reducible exact ih0 _ _ _ _ _ _ _ _)
   | (with_reducible exact ih1 _ _ _ _ _ _ _ _ _)
   | (with_reducible exact ih2 _ _ _ _ _ _ _ _ _)
   | (with_reducible exact ih3 _ _ _ _ _ _ _ _ _)
   | (with_reducible exact ih4 _ _ _ _ _ _ _ _ _)
   | (with_reducible exact ih5 _ _ _ _ _ _ _ _ _ _)
   | (with_reducible exact ih6 _ _ _ _ _ _ _ _ _)
   | (with_reducible exact first_Lines.mono _ _ _ _ _ _ _)
   | (with_reducible exact stickfullaw15_head.mono _)
   | (with_reducible exact stickfulref11_Same.mono _ _ _)
   | (with_reducible exact stickfulref15_Cells.mono _ _ _ _)
   | (with_reducible exact LeO.refl _)
   | (with_reducible exact LeO.none _)
   | (with_reducible refine LeO.ite ?_ ?_)
   | (with_reducible refine LeO.bind ?_ (fun _ => ?_))
   | exact ih0 _ _ _ _ _ _ _ _
   | exact ih1 _ _ _ _ _ _ _ _ _
   | exact ih2 _ _ _ _ _ _ _ _ _
   | exact ih3 _ _ _ _ _ _ _ _ _
   | exact ih4 _ _ _ _ _ _ _ _ _
   | exact ih5 _ _ _ _ _ _ _ _ _ _
   | exact ih6 _ _ _ _ _ _ _ _ _
   | exact first_Lines.mono _ _ _ _ _ _ _
   | exact stickfullaw15_head.mono _
   | exact stickfulref11_Same.mono _ _ _
   | exact stickfulref15_Cells.mono _ _ _ _
   | exact LeO.none _
   | refine LeO.ite ?_ ?_
   | refine LeO.bind ?_ (fun _ => ?_)
  ·intro y0 y1 y2 y3 y4 y5 y6 y7 y8
   unfold stickfullaw15_FirstCells.j1
   repeat' first
   | (with_reducible exact ih0 _ _ _ _ _ _ _ _)
   | (with_reducible exact ih1 _ _ _ _ _ _ _ _ _)
   | (with_reducible exact ih2 _ _ _ _ _ _ _ _ _)
   | (with_reducible exact ih3 _ _ _ _ _ _ _ _ _)
   | (with_reducible exact ih4 _ _ _ _ _ _ _ _ _)
   | (with_reducible exact ih5 _ _ _ _ _ _ _ _ _ _)
   | (with_reducible exact ih6 _ _ _ _ _ _ _ _ _)
   | (with_reducible exact first_Lines.mono _ _ _ _ _ _ _)
   | (with_reducible exact stickfullaw15_head.mono _)
   | (with_reducible exact stickfulref11_Same.mono _ _ _)
   | (with_reducible exact stickfulref15_Cells.mono _ _ _ _)
   | (with_reducible exact LeO.refl _)
   | (with_reducible exact LeO.none _)
   | (with_reducible refine LeO.ite ?_ ?_)
   | (with_reducible refine LeO.bind ?_ (fun _ => ?_))
   | exact ih0 _ _ _ _ _ _ _ _
   | exact ih1 _ _ _ _ _ _ _ _ _
   | exact ih2 _ _ _ _ _ _ _ _ _
   | exact ih3 _ _ _ _ _ _ _ _ _
   | exact ih4 _ _ _ _ _ _ _ _ _
   | exact ih5 _ _ _ _ _ _ _ _ _ _
   | exact ih6 _ _ _ _ _ _ _ _ _
   | exact first_Lines.mono _ _ _ _ _ _ _
   | exact stickfullaw15_head.mono _
   | exact stickfulref11_Same.mono _ _ _
   | exact stickfulref15_Cells.mono _ _ _ _
   | exact LeO.none _
   | refine LeO.ite ?_ ?_
   | refine LeO.bind ?_ (fun _ => ?_)
  ·intro y0 y1 y2 y3 y4 y5 y6 y7 y8
   unfold stickfullaw15_FirstCells.l0
   repeat' first
   | (with_reducible exact ih0 _ _ _ _ _ _ _ _)
   | (with_reducible exact ih1 _ _ _ _ _ _ _ _ _)
   | (with_reducible exact ih2 _ _ _ _ _ _ _ _ _)
   | (with_reducible exact ih3 _ _ _ _ _ _ _ _ _)
   | (with_reducible exact ih4 _ _ _ _ _ _ _ _ _)
   | (with_reducible exact ih5 _ _ _ _ _ _ _ _ _ _)
   | (with_reducible exact ih6 _ _ _ _ _ _ _ _ _)
   | (with_reducible exact first_Lines.mono _ _ _ _ _ _ _)
   | (with_reducible exact stickfullaw15_head.mono _)
   | (with_reducible exact stickfulref11_Same.mono _ _ _)
   | (with_reducible exact stickfulref15_Cells.mono _ _ _ _)
   | (with_reducible exact LeO.refl _)
   | (with_reducible exact LeO.none _)
   | (with_reducible refine LeO.ite ?_ ?_)
   | (with_reducible refine LeO.bind ?_ (fun _ => ?_))
   | exact ih0 _ _ _ _ _ _ _ _
   | exact ih1 _ _ _ _ _ _ _ _ _
   | exact ih2 _ _ _ _ _ _ _ _ _
   | exact ih3 _ _ _ _ _ _ _ _ _
   | exact ih4 _ _ _ _ _ _ _ _ _
   | exact ih5 _ _ _ _ _ _ _ _ _ _
   | exact ih6 _ _ _ _ _ _ _ _ _
   | exact first_Lines.mono _ _ _ _ _ _ _
   | exact stickfullaw15_head.mono _
   | exact stickfulref11_Same.mono _ _ _
   | exact stickfulref15_Cells.mono _ _ _ _
   | exact LeO.none _
   | refine LeO.ite ?_ ?_
   | refine LeO.bind ?_ (fun _ => ?_)
  ·intro y0 y1 y2 y3 y4 y5 y6 y7 y8
   unfold stickfullaw15_FirstCells.j3
   repeat' first
   | (with_reducible exact ih0 _ _ _ _ _ _ _ _)
   | (with_reducible exact ih1 _ _ _ _ _ _ _ _ _)
   | (with_reducible exact ih2 _ _ _ _ _ _ _ _ _)
   | (with_reducible exact ih3 _ _ _ _ _ _ _ _ _)
   | (with_reducible exact ih4 _ _ _ _ _ _ _ _ _)
   | (with_reducible exact ih5 _ _ _ _ _ _ _ _ _ _)
   | (with_reducible exact ih6 _ _ _ _ _ _ _ _ _)
   | (with_reducible exact first_Lines.mono _ _ _ _ _ _ _)
   | (with_reducible exact stickfullaw15_head.mono _)
   | (with_reducible exact stickfulref11_Same.mono _ _ _)
   | (with_reducible exact stickfulref15_Cells.mono _ _ _ _)
   | (with_reducible exact LeO.refl _)
   | (with_reducible exact LeO.none _)
   | (with_reducible refine LeO.ite ?_ ?_)
   | (with_reducible refine LeO.bind ?_ (fun _ => ?_))
   | exact ih0 _ _ _ _ _ _ _ _
   | exact ih1 _ _ _ _ _ _ _ _ _
   | exact ih2 _ _ _ _ _ _ _ _ _
   | exact ih3 _ _ _ _ _ _ _ _ _
   | exact ih4 _ _ _ _ _ _ _ _ _
   | exact ih5 _ _ _ _ _ _ _ _ _ _
   | exact ih6 _ _ _ _ _ _ _ _ _
   | exact first_Lines.mono _ _ _ _ _ _ _
   | exact stickfullaw15_head.mono _
   | exact stickfulref11_Same.mono _ _ _
   | exact stickfulref15_Cells.mono _ _ _ _
   | exact LeO.none _
   | refine LeO.ite ?_ ?_
   | refine LeO.bind ?_ (fun _ => ?_)
  ·intro y0 y1 y2 y3 y4 y5 y6 y7 y8
   unfold stickfullaw15_FirstCells.j4
   repeat' first
   | (with_reducible exact ih0 _ _ _ _ _ _ _ _)
   | (with_reducible exact ih1 _ _ _ _ _ _ _ _ _)
   | (with_reducible exact ih2 _ _ _ _ _ _ _ _ _)
   | (with_reducible exact ih3 _ _ _ _ _ _ _ _ _)
   | (with_reducible exact ih4 _ _ _ _ _ _ _ _ _)
   | (with_reducible exact ih5 _ _ _ _ _ _ _ _ _ _)
   | (with_reducible exact ih6 _ _ _ _ _ _ _ _ _)
   | (with_reducible exact first_Lines.mono _ _ _ _ _ _ _)
   | (with_reducible exact stickfullaw15_head.mono _)
   | (with_reducible exact stickfulref11_Same.mono _ _ _)
   | (with_reducible exact stickfulref15_Cells.mono _ _ _ _)
   | (with_reducible exact LeO.refl _)
   | (with_reducible exact LeO.none _)
   | (with_reducible refine LeO.ite ?_ ?_)
   | (with_reducible refine LeO.bind ?_ (fun _ => ?_))
   | exact ih0 _ _ _ _ _ _ _ _
   | exact ih1 _ _ _ _ _ _ _ _ _
   | exact ih2 _ _ _ _ _ _ _ _ _
   | exact ih3 _ _ _ _ _ _ _ _ _
   | exact ih4 _ _ _ _ _ _ _ _ _
   | exact ih5 _ _ _ _ _ _ _ _ _ _
   | exact ih6 _ _ _ _ _ _ _ _ _
   | exact first_Lines.mono _ _ _ _ _ _ _
   | exact stickfullaw15_head.mono _
   | exact stickfulref11_Same.mono _ _ _
   | exact stickfulref15_Cells.mono _ _ _ _
   | exact LeO.none _
   | refine LeO.ite ?_ ?_
   | refine LeO.bind ?_ (fun _ => ?_)
  ·intro y0 y1 y2 y3 y4 y5 y6 y7 y8 y9
   unfold stickfullaw15_FirstCells.l1
   repeat' first
   | (with_reducible exact ih0 _ _ _ _ _ _ _ _)
   | (with_reducible exact ih1 _ _ _ _ _ _ _ _ _)
   | (with_reducible exact ih2 _ _ _ _ _ _ _ _ _)
   | (with_reducible exact ih3 _ _ _ _ _ _ _ _ _)
   | (with_reducible exact ih4 _ _ _ _ _ _ _ _ _)
   | (with_reducible exact ih5 _ _ _ _ _ _ _ _ _ _)
   | (with_reducible exact ih6 _ _ _ _ _ _ _ _ _)
   | (with_reducible exact first_Lines.mono _ _ _ _ _ _ _)
   | (with_reducible exact stickfullaw15_head.mono _)
   | (with_reducible exact stickfulref11_Same.mono _ _ _)
   | (with_reducible exact stickfulref15_Cells.mono _ _ _ _)
   | (with_reducible exact LeO.refl _)
   | (with_reducible exact LeO.none _)
   | (with_reducible refine LeO.ite ?_ ?_)
   | (with_reducible refine LeO.bind ?_ (fun _ => ?_))
   | exact ih0 _ _ _ _ _ _ _ _
   | exact ih1 _ _ _ _ _ _ _ _ _
   | exact ih2 _ _ _ _ _ _ _ _ _
   | exact ih3 _ _ _ _ _ _ _ _ _
   | exact ih4 _ _ _ _ _ _ _ _ _
   | exact ih5 _ _ _ _ _ _ _ _ _ _
   | exact ih6 _ _ _ _ _ _ _ _ _
   | exact first_Lines.mono _ _ _ _ _ _ _
   | exact stickfullaw15_head.mono _
   | exact stickfulref11_Same.mono _ _ _
   | exact stickfulref15_Cells.mono _ _ _ _
   | exact LeO.none _
   | refine LeO.ite ?_ ?_
   | refine LeO.bind ?_ (fun _ => ?_)
  ·intro y0 y1 y2 y3 y4 y5 y6 y7 y8
   unfold stickfullaw15_FirstCells.j6
   repeat' first
   | (with_reducible exact ih0 _ _ _ _ _ _ _ _)
   | (with_reducible exact ih1 _ _ _ _ _ _ _ _ _)
   | (with_reducible exact ih2 _ _ _ _ _ _ _ _ _)
   | (with_reducible exact ih3 _ _ _ _ _ _ _ _ _)
   | (with_reducible exact ih4 _ _ _ _ _ _ _ _ _)
   | (with_reducible exact ih5 _ _ _ _ _ _ _ _ _ _)
   | (with_reducible exact ih6 _ _ _ _ _ _ _ _ _)
   | (with_reducible exact first_Lines.mono _ _ _ _ _ _ _)
   | (with_reducible exact stickfullaw15_head.mono _)
   | (with_reducible exact stickfulref11_Same.mono _ _ _)
   | (with_reducible exact stickfulref15_Cells.mono _ _ _ _)
   | (with_reducible exact LeO.refl _)
   | (with_reducible exact LeO.none _)
   | (with_reducible refine LeO.ite ?_ ?_)
   | (with_reducible refine LeO.bind ?_ (fun _ => ?_))
   | exact ih0 _ _ _ _ _ _ _ _
   | exact ih1 _ _ _ _ _ _ _ _ _
   | exact ih2 _ _ _ _ _ _ _ _ _
   | exact ih3 _ _ _ _ _ _ _ _ _
   | exact ih4 _ _ _ _ _ _ _ _ _
   | exact ih5 _ _ _ _ _ _ _ _ _ _
   | exact ih6 _ _ _ _ _ _ _ _ _
   | exact first_Lines.mono _ _ _ _ _ _ _
   | exact stickfullaw15_head.mono _
   | exact stickfulref11_Same.mono _ _ _
   | exact stickfulref15_Cells.mono _ _ _ _
   | exact LeO.none _
   | refine LeO.ite ?_ ?_
   | refine LeO.bind ?_ (fun _ => ?_)
theorem stickfullaw15_FirstCells.mono : ∀ a0 a1 a2 a3 a4 a5 a6 k, LeO (stickfullaw15_FirstCells.f k a0 a1 a2 a3 a4 a5 a6) (stickfullaw15_FirstCells.f (k + 1) a0 a1 a2 a3 a4 a5 a6) := by
 intro a0 a1 a2 a3 a4 a5 a6 k
 obtain ⟨ih0, ih1, ih2, ih3, ih4, ih5, ih6⟩ := stickfullaw15_FirstCells.mono_l k
 unfold stickfullaw15_FirstCells.f
 repeat' first
   | (with_reducible exact ih0 _ _ _ _ _ _ _ _)
   | (with_reducible exact ih1 _ _ _ _ _ _ _ _ _)
   | (with_reducible exact ih2 _ _ _ _ _ _ _ _ _)
   | (with_reducible exact ih3 _ _ _ _ _ _ _ _ _)
   | (with_reducible exact ih4 _ _ _ _ _ _ _ _ _)
   | (with_reducible exact ih5 _ _ _ _ _ _ _ _ _ _)
   | (with_reducible exact ih6 _ _ _ _ _ _ _ _ _)
   | (with_reducible exact first_Lines.mono _ _ _ _ _ _ _)
   | (with_reducible exact stickfullaw15_head.mono _)
   | (with_reducible exact stickfulref11_Same.mono _ _ _)
   | (with_reducible exact stickfulref15_Cells.mono _ _ _ _)
   | (with_reducible exact LeO.refl _)
   | (with_reducible exact LeO.none _)
   | (with_reducible refine LeO.ite ?_ ?_)
   | (with_reducible refine LeO.bind ?_ (fun _ => ?_))
   | exact ih0 _ _ _ _ _ _ _ _
   | exact ih1 _ _ _ _ _ _ _ _ _
   | exact ih2 _ _ _ _ _ _ _ _ _
   | exact ih3 _ _ _ _ _ _ _ _ _
   | exact ih4 _ _ _ _ _ _ _ _ _
   | exact ih5 _ _ _ _ _ _ _ _ _ _
   | exact ih6 _ _ _ _ _ _ _ _ _
   | exact first_Lines.mono _ _ _ _ _ _ _
   | exact stickfullaw15_head.mono _
   | exact stickfulref11_Same.mono _ _ _
   | exact stickfulref15_Cells.mono _ _ _ _
   | exact LeO.none _
   | refine LeO.ite ?_ ?_
   | refine LeO.bind ?_ (fun _ => ?_)
def stickfullaw15_FirstCells.T10 : Bool × List (List Nat × List Nat) := (true, [([], []), ([], []), ([0, 1], [0, 1]), ([2], [2]), ([], []), ([], []), ([4, 5], [4, 5]), ([6], [6]), ([3, 7], [3, 7]), ([8], [8])])
def stickfullaw15_FirstCells.B10 : List Nat := [0, 0, 3, 7, 0, 0, 48, 112, 255, 511]
theorem stickfullaw15_FirstCells.tab10 : rtab .any (opsOf Try.f4 10) = stickfullaw15_FirstCells.T10 := by kernel_rfl
theorem stickfullaw15_FirstCells.bits10 : waitsOk stickfullaw15_FirstCells.T10.2 stickfullaw15_FirstCells.B10 = true := by kernel_rfl
def stickfullaw15_FirstCells.T26 : Bool × List (List Nat × List Nat) := (true, [([], []), ([], []), ([], []), ([2], [2]), ([], []), ([3, 4], [3, 4]), ([1, 5], [1, 5]), ([], []), ([7], [7]), ([], []), ([8, 9], [8, 9]), ([6, 10, 6], [6, 10]), ([0, 11, 11], [0, 11]), ([12, 12], [12]), ([13, 13], [13]), ([13, 14], [13, 14]), ([15, 14, 0, 1, 2, 3, 4, 5, 6, 7, 8, 9, 10, 11, 12, 13, 14, 15], [15])])
def stickfullaw15_FirstCells.B26 : List Nat := [0, 0, 0, 4, 0, 28, 62, 0, 128, 0, 896, 2046, 4095, 8191, 16383, 32767, 65535]
theorem stickfullaw15_FirstCells.tab26 : rtab .any (opsOf Try.f4 26) = stickfullaw15_FirstCells.T26 := by kernel_rfl
theorem stickfullaw15_FirstCells.bits26 : waitsOk stickfullaw15_FirstCells.T26.2 stickfullaw15_FirstCells.B26 = true := by kernel_rfl
set_option maxHeartbeats 8000000 in
set_option maxRecDepth 100000 in
theorem stickfullaw15_FirstCells.calls_t (k : Nat) (A0_0 : Option Addr) (c0_0 : Nat) (l0_0 : List (S46)) (A0_1 : Option Addr) (c0_1 : Nat) (l0_1 : List (S46)) (a0_2 a0_3 a0_4 a0_5 : Int) (A1 : Option Addr) (c1 : Nat) (l1 : List (S43)) (r : Bool) (w : World) (hr0_0 : Kd.C k46 w A0_0 l0_0.length l0_0) (hc0_0 : l0_0.length ≤ c0_0) (hr0_1 : Kd.C k46 w A0_1 l0_1.length l0_1) (hc0_1 : l0_1.length ≤ c0_1) (hr1 : Kd.C k43 w A1 l1.length l1) (hc1 : l1.length ≤ c1) (h : stickfullaw15_FirstCells.f k l0_0 l0_1 a0_2 a0_3 a0_4 a0_5 l1 = some r) (hr_ : r = true) :
  Calls Try.prog 4 #[.agg #[.slice A0_0 l0_0.length c0_0, .slice A0_1 l0_1.length c0_1, .int .i64 a0_2, .int .i64 a0_3, .int .i64 a0_4, .int .i64 a0_5], .slice A1 l1.length c1] w fun e w' => e = .returned (.bool r) ∧ Below w.heap.size w w' := by
 have hu26 := Try.underlying26
 have hu24 := Try.underlying24
 have HR_ := Aside0.mk hr_
 clear hr_
 have HR0_0 := Aside0.mk hr0_0
 have HC0_0 := Aside0.mk hc0_0
 clear hr0_0 hc0_0
 have HR0_1 := Aside0.mk hr0_1
 have HC0_1 := Aside0.mk hc0_1
 clear hr0_1 hc0_1
 have HR1 := Aside0.mk hr1
 have HC1 := Aside0.mk hc1
 clear hr1 hc1
 have HB := Aside0.mk (Below.refl w.heap.size w)
 have H : ((stickfullaw15_great.f l0_0 l0_1 a0_2 a0_3 a0_4 a0_5).bind fun t242 => (if t242 = true then (stickfullaw15_FirstCells.j0 k l1 true l0_0 l0_1 a0_2 a0_3 a0_4 a0_5) else (stickfullaw15_FirstCells.j0 k l1 (decide ((l1.length : Int) > 100)) l0_0 l0_1 a0_2 a0_3 a0_4 a0_5))) = some r := h
 clear h
 have HC3 := Aside0.mk H
 clear H
 go_enter Try.func4, Try.ntmps4
 go_upto_region 1 with (first | ((with_reducible refine gate_dst (N := 2) rfl ?_); (try (refine gate_guard (by rfl) ?_; dsimp only)); refine box_event ?hg (N := 2) ?hd (cs := #[.slice A0_0 l0_0.length c0_0, .slice A0_1 l0_1.length c0_1, .int .i64 a0_2, .int .i64 a0_3, .int .i64 a0_4, .int .i64 a0_5]) (t := 26) ?hr ?_; (case hd => rfl); (case hg => rfl); (case hr => first | (go_simp; done) | (go_simp; rfl)); intro gb241 hg w4 hbox hb; have BK241 := Aside0.mk (hbox); have GW241 := bge HB hg; have GE241 := bge HB hg; replace HB := bh HB hb; clear hb hbox hg))
 (try simp only [Act.put, List.setIfInBounds_toArray, List.set_cons_zero, List.set_cons_succ])
 go_cut [23] (fun v23 wc => ∃ (kq : Nat) (x23_2 : Bool), v23 = .bool x23_2 ∧ Aside0 (stickfullaw15_FirstCells.j0 kq l1 x23_2 l0_0 l0_1 a0_2 a0_3 a0_4 a0_5 = some r) ∧ Aside0 (kq ≤ k) ∧ Aside0 (wc.heap[gb241]? = some (.cells #[(.slice A0_0 l0_0.length c0_0), (.slice A0_1 l0_1.length c0_1), .int .i64 a0_2, .int .i64 a0_3, .int .i64 a0_4, .int .i64 a0_5] 26 (0, 0))) ∧ Aside0 (Below w.heap.size w wc))
 case first =>
  have H := HC3.out
  clear HC3
  replace H := Option.bind_eq_some_iff.mp H
  obtain ⟨t242, A50, H⟩ := H
  replace H : (if t242 = true then (stickfullaw15_FirstCells.j0 k l1 true l0_0 l0_1 a0_2 a0_3 a0_4 a0_5) else (stickfullaw15_FirstCells.j0 k l1 (decide ((l1.length : Int) > 100)) l0_0 l0_1 a0_2 a0_3 a0_4 a0_5)) = some r := H
  have A5 := Aside0.mk A50
  clear A50
  by_cases c6 : t242 = true
  ·subst c6
   have H1 : (stickfullaw15_FirstCells.j0 k l1 true l0_0 l0_1 a0_2 a0_3 a0_4 a0_5) = some r := by rw [if_pos rfl] at H; exact H
   clear H
   have H := H1
   clear H1
   have H' := Aside0.mk H
   clear H
   obtain ⟨hcz7_0, hcz7_1, hcz7_2, hcz7_3, hcz7_4, hcz7_5⟩ := cz6 BK241
   obtain ⟨hfz7_0, hfz7_1, hfz7_2, hfz7_3, hfz7_4, hfz7_5⟩ := fz6 BK241
   go_wp2_with (first | ((with_reducible refine gate_callee (f := 7) rfl ?_); refine goesB (some 18) rfl rfl Try.func7 #[.agg #[.slice A0_0 l0_0.length c0_0, .slice A0_1 l0_1.length c0_1, .int .i64 a0_2, .int .i64 a0_3, .int .i64 a0_4, .int .i64 a0_5]] rfl ?_; (with_reducible refine (stickfullaw15_great.calls _ _ l0_0 _ _ l0_1 a0_2 a0_3 a0_4 a0_5 true _ ?side1 ?side2 ?side3 ?side4 A5.out).mono ?_); (case side1 => repeat (first | exact (Kd.C_below HR0_0.out HB.out) | (with_reducible refine Kd.C_alloc ?_ _) | (with_reducible refine Kd.C_drewN ?_ _) | (with_reducible refine Kd.C_drew ?_))); (case side2 => exact HC0_0.out); (case side3 => repeat (first | exact (Kd.C_below HR0_1.out HB.out) | (with_reducible refine Kd.C_alloc ?_ _) | (with_reducible refine Kd.C_drewN ?_ _) | (with_reducible refine Kd.C_drew ?_))); (case side4 => exact HC0_1.out); rintro e w8 ⟨rfl, hb⟩; refine ⟨_, rfl, ?_⟩; replace BK241 := bb BK241 hb; replace HB := bh HB hb; (try clear hb); (try clear hb2); (try clear hk); (try clear hi)))
   go_meet
   case rel => exact ⟨_, (true), (by first | rfl | (simp; done) | (simp [*]; done)), H', ⟨by first | omega | exact Nat.le_refl _⟩, ⟨by (with_reducible repeat (first | refine blk_drewN ?_ _ | refine blk_drew ?_ | refine blk_alloc ?_ _)); exact BK241.out⟩, ⟨by repeat (first | (with_reducible first | exact HB.out | apply below_alloc | apply pw_below_drewN | apply below_drew1 | refine below_set ?_ GE241.out) | exact HB.out)⟩⟩
  ·replace c6 := Bool.eq_false_iff.mpr c6
   subst c6
   have H1 : (stickfullaw15_FirstCells.j0 k l1 (decide ((l1.length : Int) > 100)) l0_0 l0_1 a0_2 a0_3 a0_4 a0_5) = some r := by rw [if_neg (show ¬ (false = true) by decide)] at H; exact H
   clear H
   have H := H1
   clear H1
   have H' := Aside0.mk H
   clear H
   obtain ⟨hcz9_0, hcz9_1, hcz9_2, hcz9_3, hcz9_4, hcz9_5⟩ := cz6 BK241
   obtain ⟨hfz9_0, hfz9_1, hfz9_2, hfz9_3, hfz9_4, hfz9_5⟩ := fz6 BK241
   go_wp2_with (first | ((with_reducible refine gate_callee (f := 7) rfl ?_); refine goesB (some 18) rfl rfl Try.func7 #[.agg #[.slice A0_0 l0_0.length c0_0, .slice A0_1 l0_1.length c0_1, .int .i64 a0_2, .int .i64 a0_3, .int .i64 a0_4, .int .i64 a0_5]] rfl ?_; (with_reducible refine (stickfullaw15_great.calls _ _ l0_0 _ _ l0_1 a0_2 a0_3 a0_4 a0_5 false _ ?side1 ?side2 ?side3 ?side4 A5.out).mono ?_); (case side1 => repeat (first | exact (Kd.C_below HR0_0.out HB.out) | (with_reducible refine Kd.C_alloc ?_ _) | (with_reducible refine Kd.C_drewN ?_ _) | (with_reducible refine Kd.C_drew ?_))); (case side2 => exact HC0_0.out); (case side3 => repeat (first | exact (Kd.C_below HR0_1.out HB.out) | (with_reducible refine Kd.C_alloc ?_ _) | (with_reducible refine Kd.C_drewN ?_ _) | (with_reducible refine Kd.C_drew ?_))); (case side4 => exact HC0_1.out); rintro e w10 ⟨rfl, hb⟩; refine ⟨_, rfl, ?_⟩; replace BK241 := bb BK241 hb; replace HB := bh HB hb; (try clear hb); (try clear hb2); (try clear hk); (try clear hi)))
   go_meet
   case rel => exact ⟨_, (decide ((l1.length : Int) > 100)), (by first | rfl | (simp; done) | (simp [*]; done)), H', ⟨by first | omega | exact Nat.le_refl _⟩, ⟨by (with_reducible repeat (first | refine blk_drewN ?_ _ | refine blk_drew ?_ | refine blk_alloc ?_ _)); exact BK241.out⟩, ⟨by repeat (first | (with_reducible first | exact HB.out | apply below_alloc | apply pw_below_drewN | apply below_drew1 | refine below_set ?_ GE241.out) | exact HB.out)⟩⟩
 case rest =>
  clear HC3
  try clear c1
  try clear p2
  try clear c4
  try clear c6
  try clear c7
  try clear hcz7_0
  try clear hcz7_1
  try clear hcz7_2
  try clear hcz7_3
  try clear hcz7_4
  try clear hcz7_5
  try clear hcz9_0
  try clear hcz9_1
  try clear hcz9_2
  try clear hcz9_3
  try clear hcz9_4
  try clear hcz9_5
  try clear hfz7_0
  try clear hfz7_1
  try clear hfz7_2
  try clear hfz7_3
  try clear hfz7_4
  try clear hfz7_5
  try clear hfz9_0
  try clear hfz9_1
  try clear hfz9_2
  try clear hfz9_3
  try clear hfz9_4
  try clear hfz9_5
  obtain ⟨kq, x23_2, rfl, HA, HJ2, BK241, HB⟩ := hcut
  cases kq with
  | zero => exact absurd HA.out (by simp [stickfullaw15_FirstCells.j0])
  | succ kj2 =>
   have H := HA.out
   clear HA
   simp only [stickfullaw15_FirstCells.j0] at H
   by_cases c11 : x23_2 = true
   ·subst c11
    have H1 : ((stickfullaw15_head.f kj2).bind fun t243 => (some t243)) = some r := by rw [if_pos rfl] at H; exact H
    clear H
    have H := H1
    clear H1
    replace H := Option.bind_eq_some_iff.mp H
    obtain ⟨t243, A120, H⟩ := H
    replace H : (some t243) = some r := H
    have A12 := Aside0.mk A120
    clear A120
    obtain rfl := Option.some.inj H
    go_wp2_with (first | ((with_reducible refine gate_callee (f := 8) rfl ?_); refine goesB (some 24) rfl rfl Try.func8 #[] rfl ?_; (with_reducible refine (stickfullaw15_head.calls kj2  t243 _ A12.out).mono ?_); rintro e w13 ⟨rfl, hb⟩; refine ⟨_, rfl, ?_⟩; replace BK241 := bb BK241 hb; replace HB := bh HB hb; (try clear hb); (try clear hb2); (try clear hk); (try clear hi)))
    go_ret
    exact ⟨by first | rfl | (simp [errW_none, errW_some] <;> rfl) | (simp [*, errW_none, errW_some] <;> rfl), by repeat (first | (with_reducible first | exact HB.out | apply below_alloc | apply pw_below_drewN | apply below_drew1 | refine below_set ?_ GE241.out) | exact HB.out)⟩
   ·replace c11 := Bool.eq_false_iff.mpr c11
    subst c11
    have H1 : ((first_Cells.f l0_0 l0_1 l1).bind fun bt244 => ((stickfulref15_Cells.f kj2 l0_0 l0_1 l1).bind fun bt248 => (if bt244.2 = bt248.2 then (stickfullaw15_FirstCells.j1 kj2 bt244.1 bt248.1 ((bt244.1.length : Int) != (bt248.1.length : Int)) l0_0 l0_1 a0_2 a0_3 a0_4 a0_5) else (stickfullaw15_FirstCells.j1 kj2 bt244.1 bt248.1 true l0_0 l0_1 a0_2 a0_3 a0_4 a0_5)))) = some r := by rw [if_neg (show ¬ (false = true) by decide)] at H; exact H
    clear H
    have H := H1
    clear H1
    replace H := Option.bind_eq_some_iff.mp H
    obtain ⟨⟨t244, t245⟩, A140, H⟩ := H
    replace H : ((stickfulref15_Cells.f kj2 l0_0 l0_1 l1).bind fun bt248 => (if t245 = bt248.2 then (stickfullaw15_FirstCells.j1 kj2 t244 bt248.1 ((t244.length : Int) != (bt248.1.length : Int)) l0_0 l0_1 a0_2 a0_3 a0_4 a0_5) else (stickfullaw15_FirstCells.j1 kj2 t244 bt248.1 true l0_0 l0_1 a0_2 a0_3 a0_4 a0_5))) = some r := H
    have A14 := Aside0.mk A140
    clear A140
    replace H := Option.bind_eq_some_iff.mp H
    obtain ⟨⟨t248, t249⟩, A150, H⟩ := H
    replace H : (if t245 = t249 then (stickfullaw15_FirstCells.j1 kj2 t244 t248 ((t244.length : Int) != (t248.length : Int)) l0_0 l0_1 a0_2 a0_3 a0_4 a0_5) else (stickfullaw15_FirstCells.j1 kj2 t244 t248 true l0_0 l0_1 a0_2 a0_3 a0_4 a0_5)) = some r := H
    have A15 := Aside0.mk A150
    clear A150
    have HC16 := Aside0.mk H
    clear H
    obtain ⟨hcz17_0, hcz17_1, hcz17_2, hcz17_3, hcz17_4, hcz17_5⟩ := cz6 BK241
    obtain ⟨hfz17_0, hfz17_1, hfz17_2, hfz17_3, hfz17_4, hfz17_5⟩ := fz6 BK241
    go_upto_region 5 with (first | ((with_reducible refine gate_callee (f := 14) rfl ?_); refine goesB (some 31) rfl rfl Try.func14 #[.slice A0_0 l0_0.length c0_0, .slice A0_1 l0_1.length c0_1, .slice A1 l1.length c1] rfl ?_; (with_reducible refine (first_Cells.calls _ _ l0_0 _ _ l0_1 _ _ l1 t244 t245 _ ?side1 ?side2 ?side3 ?side4 ?side5 ?side6 A14.out).mono ?_); (case side1 => repeat (first | exact (Kd.C_below HR0_0.out HB.out) | (with_reducible refine Kd.C_alloc ?_ _) | (with_reducible refine Kd.C_drewN ?_ _) | (with_reducible refine Kd.C_drew ?_))); (case side2 => exact HC0_0.out); (case side3 => repeat (first | exact (Kd.C_below HR0_1.out HB.out) | (with_reducible refine Kd.C_alloc ?_ _) | (with_reducible refine Kd.C_drewN ?_ _) | (with_reducible refine Kd.C_drew ?_))); (case side4 => exact HC0_1.out); (case side5 => repeat (first | exact (Kd.C_below HR1.out HB.out) | (with_reducible refine Kd.C_alloc ?_ _) | (with_reducible refine Kd.C_drewN ?_ _) | (with_reducible refine Kd.C_drew ?_))); (case side6 => exact HC1.out); rintro e w18 ⟨v246, rfl, ho0, hb⟩; refine ⟨_, rfl, ?_⟩; have HO247 := Aside0.mk (Kd.S_lower ho0 (below_size (bw HB))); replace BK241 := bb BK241 hb; replace HB := bh HB hb; (try clear hb); (try clear hb2); (try clear hk); (try clear hi); (try clear ho0); obtain ⟨hcz19_0, hcz19_1, hcz19_2, hcz19_3, hcz19_4, hcz19_5⟩ := cz6 BK241; obtain ⟨hfz19_0, hfz19_1, hfz19_2, hfz19_3, hfz19_4, hfz19_5⟩ := fz6 BK241) | ((with_reducible refine gate_callee (f := 15) rfl ?_); refine goesB (some 40) rfl rfl Try.func15 #[.slice A0_0 l0_0.length c0_0, .slice A0_1 l0_1.length c0_1, .slice A1 l1.length c1] rfl ?_; (with_reducible refine (stickfulref15_Cells.calls kj2 _ _ l0_0 _ _ l0_1 _ _ l1 t248 t249 _ ?side1 ?side2 ?side3 ?side4 ?side5 ?side6 A15.out).mono ?_); (case side1 => repeat (first | exact (Kd.C_below HR0_0.out HB.out) | (with_reducible refine Kd.C_alloc ?_ _) | (with_reducible refine Kd.C_drewN ?_ _) | (with_reducible refine Kd.C_drew ?_))); (case side2 => exact HC0_0.out); (case side3 => repeat (first | exact (Kd.C_below HR0_1.out HB.out) | (with_reducible refine Kd.C_alloc ?_ _) | (with_reducible refine Kd.C_drewN ?_ _) | (with_reducible refine Kd.C_drew ?_))); (case side4 => exact HC0_1.out); (case side5 => repeat (first | exact (Kd.C_below HR1.out HB.out) | (with_reducible refine Kd.C_alloc ?_ _) | (with_reducible refine Kd.C_drewN ?_ _) | (with_reducible refine Kd.C_drew ?_))); (case side6 => exact HC1.out); rintro e w20 ⟨v250, rfl, ho0, hb⟩; refine ⟨_, rfl, ?_⟩; have HO251 := Aside0.mk (Kd.S_lower (Kd.S_new' ho0 (Kd.S_lt (by (with_reducible repeat (first | apply Kd.S_alloc | apply Kd.S_drewN | apply Kd.S_drew)); exact HO247.out))) (below_size (bw HB))); replace HO247 := Aside0.mk (Kd.S_elder' (by (with_reducible repeat (first | apply Kd.S_alloc | apply Kd.S_drewN | apply Kd.S_drew)); exact HO247.out) (Kd.S_base ho0) hb); replace BK241 := bb BK241 hb; replace HB := bh HB hb; (try clear hb); (try clear hb2); (try clear hk); (try clear hi); (try clear ho0)))
    (try simp only [Act.put, List.setIfInBounds_toArray, List.set_cons_zero, List.set_cons_succ])
    go_cut [52] (fun v52 wc => ∃ (kq : Nat) (x52_15 : Bool), v52 = .bool x52_15 ∧ Aside0 (stickfullaw15_FirstCells.j1 kq t244 t248 x52_15 l0_0 l0_1 a0_2 a0_3 a0_4 a0_5 = some r) ∧ Aside0 (kq ≤ kj2) ∧ Aside0 (Kd.S (Kd.slice 46 k46) 22 wc w.heap.size (fun k_ => some k_ ≠ (v250 : Value).ownBlock) v246 t244) ∧ Aside0 (Kd.S (Kd.slice 46 k46) 22 wc w.heap.size (fun k_ => some k_ ≠ (v246 : Value).ownBlock) v250 t248) ∧ Aside0 (wc.heap[gb241]? = some (.cells #[(.slice A0_0 l0_0.length c0_0), (.slice A0_1 l0_1.length c0_1), .int .i64 a0_2, .int .i64 a0_3, .int .i64 a0_4, .int .i64 a0_5] 26 (0, 0))) ∧ Aside0 (Below w.heap.size w wc))
    case first =>
     have H := HC16.out
     clear HC16
     by_cases c21 : t245 = t249
     ·rw [if_pos c21] at H
      have c21b0 : (t245 == t249) = true := beq_iff_eq.mpr c21
      have c21b1 : (t245 != t249) = false := bne_eq_false_iff_eq.mpr c21
      clear c21
      (first | rw [c21b0] | (simp only [i64_w, i32_w]; rw [c21b0]) | skip)
      have H' := Aside0.mk H
      clear H
      obtain ⟨Ao22, co22, eo22⟩ := Kd.S_slice HO247.out
      subst eo22
      obtain ⟨Ao23, co23, eo23⟩ := Kd.S_slice HO251.out
      subst eo23
      go_wp2
      go_meet
      case rel => exact ⟨_, (((t244.length : Int) != (t248.length : Int))), (by first | rfl | (simp; done) | (simp [*]; done)), H', ⟨by have := HJ2.out; first | omega | exact Nat.le_refl _⟩, ⟨by (with_reducible repeat (first | apply Kd.S_alloc | apply Kd.S_drewN | apply Kd.S_drew)); exact Kd.S_mono HO247.out (fun _ hk => hk.2)⟩, ⟨by (with_reducible repeat (first | apply Kd.S_alloc | apply Kd.S_drewN | apply Kd.S_drew)); exact Kd.S_mono HO251.out (fun _ hk => hk.2)⟩, ⟨by (with_reducible repeat (first | refine blk_drewN ?_ _ | refine blk_drew ?_ | refine blk_alloc ?_ _)); exact BK241.out⟩, ⟨by repeat (first | (with_reducible first | exact HB.out | apply below_alloc | apply pw_below_drewN | apply below_drew1 | refine below_set ?_ GE241.out) | exact HB.out)⟩⟩
     ·rw [if_neg c21] at H
      have c21b0 : (t245 == t249) = false := beq_eq_false_iff_ne.mpr c21
      have c21b1 : (t245 != t249) = true := bne_iff_ne.mpr c21
      (first | rw [c21b0] | (simp only [i64_w, i32_w]; rw [c21b0]) | skip)
      have H' := Aside0.mk H
      clear H
      go_wp2
      go_meet
      case rel => exact ⟨_, (true), (by first | rfl | (simp; done) | (simp [*]; done)), H', ⟨by have := HJ2.out; first | omega | exact Nat.le_refl _⟩, ⟨by (with_reducible repeat (first | apply Kd.S_alloc | apply Kd.S_drewN | apply Kd.S_drew)); exact Kd.S_mono HO247.out (fun _ hk => hk.2)⟩, ⟨by (with_reducible repeat (first | apply Kd.S_alloc | apply Kd.S_drewN | apply Kd.S_drew)); exact Kd.S_mono HO251.out (fun _ hk => hk.2)⟩, ⟨by (with_reducible repeat (first | refine blk_drewN ?_ _ | refine blk_drew ?_ | refine blk_alloc ?_ _)); exact BK241.out⟩, ⟨by repeat (first | (with_reducible first | exact HB.out | apply below_alloc | apply pw_below_drewN | apply below_drew1 | refine below_set ?_ GE241.out) | exact HB.out)⟩⟩
    case rest =>
     clear HC16
     try clear c1
     try clear c2
     try clear p2
     try clear c4
     try clear c6
     try clear c7
     try clear c8
     try clear c11
     try clear c14
     try clear c15
     try clear c21
     try clear c21b0
     try clear c21b1
     try clear hcz17_0
     try clear hcz17_1
     try clear hcz17_2
     try clear hcz17_3
     try clear hcz17_4
     try clear hcz17_5
     try clear hcz19_0
     try clear hcz19_1
     try clear hcz19_2
     try clear hcz19_3
     try clear hcz19_4
     try clear hcz19_5
     try clear hcz7_0
     try clear hcz7_1
     try clear hcz7_2
     try clear hcz7_3
     try clear hcz7_4
     try clear hcz7_5
     try clear hcz9_0
     try clear hcz9_1
     try clear hcz9_2
     try clear hcz9_3
     try clear hcz9_4
     try clear hcz9_5
     try clear hfz17_0
     try clear hfz17_1
     try clear hfz17_2
     try clear hfz17_3
     try clear hfz17_4
     try clear hfz17_5
     try clear hfz19_0
     try clear hfz19_1
     try clear hfz19_2
     try clear hfz19_3
     try clear hfz19_4
     try clear hfz19_5
     try clear hfz7_0
     try clear hfz7_1
     try clear hfz7_2
     try clear hfz7_3
     try clear hfz7_4
     try clear hfz7_5
     try clear hfz9_0
     try clear hfz9_1
     try clear hfz9_2
     try clear hfz9_3
     try clear hfz9_4
     try clear hfz9_5
     try clear p2
     obtain ⟨kq, x52_15, rfl, HA, HJ15, HO_5, HO_7, BK241, HB⟩ := hcut
     cases kq with
     | zero => exact absurd HA.out (by simp [stickfullaw15_FirstCells.j1])
     | succ kj15 =>
      have H := HA.out
      clear HA
      simp only [stickfullaw15_FirstCells.j1] at H
      by_cases c24 : x52_15 = true
      ·subst c24
       have H1 : (some false) = some r := by rw [if_pos rfl] at H; exact H
       clear H
       have H := H1
       clear H1
       exact absurd ((Option.some.inj H).trans HR_.out) (by decide)
      ·replace c24 := Bool.eq_false_iff.mpr c24
       subst c24
       have H1 : (stickfullaw15_FirstCells.l0 kj15 t244 t248 0 l0_0 l0_1 a0_2 a0_3 a0_4 a0_5) = some r := by rw [if_neg (show ¬ (false = true) by decide)] at H; exact H
       clear H
       have H := H1
       clear H1
       have H' := Aside0.mk H
       clear H
       go_wp2
       go_loopg [9] kj15 (fun kq v9 w' => ∃ (x9_3 : Int), v9 = .int .i64 x9_3 ∧ Aside0 (stickfullaw15_FirstCells.l0 kq t244 t248 x9_3 l0_0 l0_1 a0_2 a0_3 a0_4 a0_5 = some r) ∧ Aside0 (kq ≤ kj15) ∧ Aside0 (Kd.S (Kd.slice 46 k46) 22 w' w.heap.size (fun k_ => some k_ ≠ (v250 : Value).ownBlock) v246 t244) ∧ Aside0 (Kd.S (Kd.slice 46 k46) 22 w' w.heap.size (fun k_ => some k_ ≠ (v246 : Value).ownBlock) v250 t248) ∧ Aside0 (w'.heap[gb241]? = some (.cells #[(.slice A0_0 l0_0.length c0_0), (.slice A0_1 l0_1.length c0_1), .int .i64 a0_2, .int .i64 a0_3, .int .i64 a0_4, .int .i64 a0_5] 26 (0, 0))) ∧ Aside0 (Below w.heap.size w w'))
       case atStart => exact ⟨(0), (by first | rfl | (simp; done) | (simp [*]; done)), H', ⟨Nat.le_refl _⟩, ⟨by (with_reducible repeat (first | apply Kd.S_alloc | apply Kd.S_drewN | apply Kd.S_drew)); exact HO_5.out⟩, ⟨by (with_reducible repeat (first | apply Kd.S_alloc | apply Kd.S_drewN | apply Kd.S_drew)); exact HO_7.out⟩, ⟨by (with_reducible repeat (first | refine blk_drewN ?_ _ | refine blk_drew ?_ | refine blk_alloc ?_ _)); exact BK241.out⟩, ⟨by repeat (first | (with_reducible first | exact HB.out | apply below_alloc | apply pw_below_drewN | apply below_drew1 | refine below_set ?_ GE241.out) | exact HB.out)⟩⟩
       case round =>
        clear H'
        try clear c1
        try clear c2
        try clear p2
        try clear c4
        try clear c6
        try clear c7
        try clear c8
        try clear c11
        try clear c14
        try clear c15
        try clear c21
        try clear c21b0
        try clear c21b1
        try clear c24
        try clear hcz17_0
        try clear hcz17_1
        try clear hcz17_2
        try clear hcz17_3
        try clear hcz17_4
        try clear hcz17_5
        try clear hcz19_0
        try clear hcz19_1
        try clear hcz19_2
        try clear hcz19_3
        try clear hcz19_4
        try clear hcz19_5
        try clear hcz7_0
        try clear hcz7_1
        try clear hcz7_2
        try clear hcz7_3
        try clear hcz7_4
        try clear hcz7_5
        try clear hcz9_0
        try clear hcz9_1
        try clear hcz9_2
        try clear hcz9_3
        try clear hcz9_4
        try clear hcz9_5
        try clear hfz17_0
        try clear hfz17_1
        try clear hfz17_2
        try clear hfz17_3
        try clear hfz17_4
        try clear hfz17_5
        try clear hfz19_0
        try clear hfz19_1
        try clear hfz19_2
        try clear hfz19_3
        try clear hfz19_4
        try clear hfz19_5
        try clear hfz7_0
        try clear hfz7_1
        try clear hfz7_2
        try clear hfz7_3
        try clear hfz7_4
        try clear hfz7_5
        try clear hfz9_0
        try clear hfz9_1
        try clear hfz9_2
        try clear hfz9_3
        try clear hfz9_4
        try clear hfz9_5
        try clear p2
        obtain ⟨x9_3, rfl, HA, HK3, HO_5, HO_7, BK241, HB⟩ := hrel
        cases gk with
        | zero => exact absurd HA.out (by simp [stickfullaw15_FirstCells.l0])
        | succ k3 =>
         have H := HA.out
         clear HA
         simp only [stickfullaw15_FirstCells.l0] at H
         by_cases c25 : x9_3 < (t244.length : Int)
         ·rw [if_pos c25] at H
          have c25b0 : decide (x9_3 < (t244.length : Int)) = true := decide_eq_true c25
          clear c25
          by_cases c26 : 0 ≤ x9_3
          ·rw [if_pos c26] at H
           have c26b0 : decide (0 ≤ x9_3) = true := decide_eq_true c26
           clear c26
           by_cases c27 : x9_3 < (t248.length : Int)
           ·rw [if_pos c27] at H
            have c27b0 : decide (x9_3 < (t248.length : Int)) = true := decide_eq_true c27
            clear c27
            replace H := Option.bind_eq_some_iff.mp H
            obtain ⟨t254, A280, H⟩ := H
            replace H : (if t254 = true then (stickfullaw15_FirstCells.l0 k3 t244 t248 (wrap64 (x9_3 + 1)) l0_0 l0_1 a0_2 a0_3 a0_4 a0_5) else (some false)) = some r := H
            have A28 := Aside0.mk A280
            clear A280
            by_cases c29 : t254 = true
            ·subst c29
             have H1 : (stickfullaw15_FirstCells.l0 k3 t244 t248 (wrap64 (x9_3 + 1)) l0_0 l0_1 a0_2 a0_3 a0_4 a0_5) = some r := by rw [if_pos rfl] at H; exact H
             clear H
             have H := H1
             clear H1
             have H' := Aside0.mk H
             clear H
             obtain ⟨Ao30, co30, eo30⟩ := Kd.S_slice HO_5.out
             subst eo30
             try go_wp2
             replace HO_5 := Aside0.mk (Kd.S_drew HO_5.out)
             replace HO_7 := Aside0.mk (Kd.S_drew HO_7.out)
             replace BK241 := Aside0.mk (blk_drew BK241.out)
             replace HB := Aside0.mk (below_drew1 HB.out)
             have p252 : 0 ≤ (x9_3 : Int) := of_decide_eq_true (by first | (with_reducible assumption) | assumption)
             have q252 : x9_3 < (t244.length : Int) := of_decide_eq_true (by first | (with_reducible assumption) | assumption)
             obtain ⟨ad252, A252_0, c252_0, e252, hx252_0, hl252_0, hi252_0⟩ := at_L4 (Kd.S_reads' HO_5.out).2.2 x9_3 p252 q252
             cases e252
             obtain ⟨ce252, hce252, hMe252, hcc252⟩ := Kd.S_get HO_5.out [] x9_3 p252 (by first | exact q252 | exact of_decide_eq_true (by first | (with_reducible assumption) | assumption) | (have e_ := (Kd.S_reads' HO_5.out).1; omega))
             obtain ⟨ve252_0, rfl, ge252_0⟩ := hMe252
             have hv252_0 := hcc252 0 _ rfl
             rw [Nat.add_zero, show ((Kd.slice 46 k46)).sz = 1 from rfl, Nat.mul_one] at hv252_0
             replace hv252_0 := Option.some.inj (hv252_0.symm.trans hx252_0)
             rw [hv252_0] at ge252_0
             have HL252_0 := Aside0.mk (show Kd.R k46 46 _ _ _ _ (rd_L4 t244 x9_3) from ge252_0)
             clear hv252_0 ge252_0
             clear hcc252 hce252
             have HR252_0 := Aside0.mk hi252_0
             have HC252_0 := Aside0.mk hl252_0
             clear hi252_0 hl252_0
             replace p252 := eq_true p252
             replace q252 := eq_true q252
             obtain ⟨Ao32, co32, eo32⟩ := Kd.S_slice HO_7.out
             (first | subst eo32 | (injection eo32 with f1_ f2_ f3_; have f4_ := f1_.symm; have f5_ := f3_.symm; clear f1_ f2_ f3_; subst f4_; subst f5_))
             have p253 : 0 ≤ (x9_3 : Int) := of_decide_eq_true (by first | (with_reducible assumption) | assumption)
             have q253 : x9_3 < (t248.length : Int) := of_decide_eq_true (by first | (with_reducible assumption) | assumption)
             obtain ⟨ad253, A253_0, c253_0, e253, hx253_0, hl253_0, hi253_0⟩ := at_L4 (Kd.S_reads' HO_7.out).2.2 x9_3 p253 q253
             cases e253
             obtain ⟨ce253, hce253, hMe253, hcc253⟩ := Kd.S_get HO_7.out [] x9_3 p253 (by first | exact q253 | exact of_decide_eq_true (by first | (with_reducible assumption) | assumption) | (have e_ := (Kd.S_reads' HO_7.out).1; omega))
             obtain ⟨ve253_0, rfl, ge253_0⟩ := hMe253
             have hv253_0 := hcc253 0 _ rfl
             rw [Nat.add_zero, show ((Kd.slice 46 k46)).sz = 1 from rfl, Nat.mul_one] at hv253_0
             replace hv253_0 := Option.some.inj (hv253_0.symm.trans hx253_0)
             rw [hv253_0] at ge253_0
             have HL253_0 := Aside0.mk (show Kd.R k46 46 _ _ _ _ (rd_L4 t248 x9_3) from ge253_0)
             clear hv253_0 ge253_0
             clear hcc253 hce253
             have HR253_0 := Aside0.mk hi253_0
             have HC253_0 := Aside0.mk hl253_0
             clear hi253_0 hl253_0
             replace p253 := eq_true p253
             replace q253 := eq_true q253
             refine start_ (n := 10) (S := fun w' => w'.cell? (ad252.add (x9_3).toNat) = some (.slice A252_0 (rd_L4 t244 x9_3).length c252_0) ∧ w'.cell? (ad253.add (x9_3).toNat) = some (.slice A253_0 (rd_L4 t248 x9_3).length c253_0)) (ds := []) (stickfullaw15_FirstCells.bm 10 0) (by kernel_rfl) rfl rfl ⟨hx252_0, hx253_0⟩ (fun hHeld => ?_); refine with_tabW stickfullaw15_FirstCells.tab10 stickfullaw15_FirstCells.bits10 (fun HT_ HW_ => ?_)
             generalize wr.drew = w31 at HO_5 HO_7 BK241 HB HL252_0 HL253_0 HR252_0 HR253_0 hx252_0 hx253_0 hHeld ⊢
             refine pure_ (i := 0) (N := some 59) (v := ?_) (a' := ?_) (stickfullaw15_FirstCells.bm 10 1) rfl rfl (any_of HT_.out (by kernel_rfl)) (fun _ _ _ h => h) (Or.inl ⟨by rfl, ?_⟩) ?_ ?_
             rotate_left; (focus intro w'; go_simp; with_reducible rfl); rotate_left; (focus simp only [Act.put, List.setIfInBounds_toArray, List.set_cons_zero, List.set_cons_succ, i64_w, i32_w]; rfl)
             refine pure_ (i := 1) (N := some 60) (v := ?_) (a' := ?_) (stickfullaw15_FirstCells.bm 10 3) rfl rfl (any_of HT_.out (by kernel_rfl)) (fun _ _ _ h => h) (Or.inl ⟨by rfl, ?_⟩) ?_ ?_
             rotate_left; (focus intro w'; go_simp; with_reducible rfl); rotate_left; (focus simp only [Act.put, List.setIfInBounds_toArray, List.set_cons_zero, List.set_cons_succ, i64_w, i32_w]; rfl)
             refine pure_ (i := 2) (N := some 61) (v := ?_) (a' := ?_) (stickfullaw15_FirstCells.bm 10 7) rfl rfl (any_of HT_.out (by kernel_rfl)) (fun _ _ _ h => h) (Or.inl ⟨by rfl, ?_⟩) ?_ ?_
             rotate_left; (focus intro w'; go_simp; with_reducible rfl); rotate_left; (focus simp only [Act.put, List.setIfInBounds_toArray, List.set_cons_zero, List.set_cons_succ, i64_w, i32_w]; rfl)
             refine pure_ (i := 4) (N := some 63) (v := ?_) (a' := ?_) (stickfullaw15_FirstCells.bm 10 23) rfl rfl (any_of HT_.out (by kernel_rfl)) (fun _ _ _ h => h) (Or.inl ⟨by rfl, ?_⟩) ?_ ?_
             rotate_left; (focus intro w'; go_simp; with_reducible rfl); rotate_left; (focus simp only [Act.put, List.setIfInBounds_toArray, List.set_cons_zero, List.set_cons_succ, i64_w, i32_w]; rfl)
             refine pure_ (i := 5) (N := some 64) (v := ?_) (a' := ?_) (stickfullaw15_FirstCells.bm 10 55) rfl rfl (any_of HT_.out (by kernel_rfl)) (fun _ _ _ h => h) (Or.inl ⟨by rfl, ?_⟩) ?_ ?_
             rotate_left; (focus intro w'; go_simp; with_reducible rfl); rotate_left; (focus simp only [Act.put, List.setIfInBounds_toArray, List.set_cons_zero, List.set_cons_succ, i64_w, i32_w]; rfl)
             refine pure_ (i := 6) (N := some 65) (v := ?_) (a' := ?_) (stickfullaw15_FirstCells.bm 10 119) rfl rfl (any_of HT_.out (by kernel_rfl)) (fun _ _ _ h => h) (Or.inl ⟨by rfl, ?_⟩) ?_ ?_
             rotate_left; (focus intro w'; go_simp; with_reducible rfl); rotate_left; (focus simp only [Act.put, List.setIfInBounds_toArray, List.set_cons_zero, List.set_cons_succ, i64_w, i32_w]; rfl)
             refine take_ (i := 3) (N := some 62) (v := ?_) (a' := ?_) (stickfullaw15_FirstCells.bm 10 127) rfl rfl (take_ofW HT_.out HW_.out (by kernel_rfl)) (fun _ _ _ h => h) (Or.inl ⟨by rfl, ?_⟩) hHeld ?_ ?_
             rotate_left; (focus rintro w' ⟨s0, s1⟩; go_simp; with_reducible rfl); rotate_left; (focus simp only [Act.put, List.setIfInBounds_toArray, List.set_cons_zero, List.set_cons_succ, i64_w, i32_w]; rfl)
             refine take_ (i := 7) (N := some 66) (v := ?_) (a' := ?_) (stickfullaw15_FirstCells.bm 10 255) rfl rfl (take_ofW HT_.out HW_.out (by kernel_rfl)) (fun _ _ _ h => h) (Or.inl ⟨by rfl, ?_⟩) hHeld ?_ ?_
             rotate_left; (focus rintro w' ⟨s0, s1⟩; go_simp; with_reducible rfl); rotate_left; (focus simp only [Act.put, List.setIfInBounds_toArray, List.set_cons_zero, List.set_cons_succ, i64_w, i32_w]; rfl)
             refine one_ (i := 8) (N := some 67) (stickfullaw15_FirstCells.bm 10 511) rfl rfl (one_of HT_.out (by kernel_rfl)) (by decide) (fun K hK => ?_)
             refine goes_ Try.func16 (by kernel_rfl) rfl #[.slice A252_0 (rd_L4 t244 x9_3).length c252_0, .slice A253_0 (rd_L4 t248 x9_3).length c253_0] (by rfl) rfl rfl (by (try simp only [List.map_toArray, List.map_cons, List.map_nil]); first | done | rfl | (simp only [List.length_drop, List.length_take]; rfl)) ?_
             with_reducible refine (stickfulref11_Same.calls k3 _ _ (rd_L4 t244 x9_3) _ _ (rd_L4 t248 x9_3) true _ ?side1 ?side2 ?side3 ?side4 A28.out).mono ?_
             (case side1 => repeat (first | exact (by repeat (first | (with_reducible exact HR252_0.out) | (with_reducible refine Kd.C_alloc ?_ _) | (with_reducible refine Kd.C_drewN ?_ _) | (with_reducible refine Kd.C_drew ?_) | exact HR252_0.out)) | (with_reducible refine Kd.C_alloc ?_ _) | (with_reducible refine Kd.C_drewN ?_ _) | (with_reducible refine Kd.C_drew ?_)))
             (case side2 => exact HC252_0.out)
             (case side3 => repeat (first | exact (by repeat (first | (with_reducible exact HR253_0.out) | (with_reducible refine Kd.C_alloc ?_ _) | (with_reducible refine Kd.C_drewN ?_ _) | (with_reducible refine Kd.C_drew ?_) | exact HR253_0.out)) | (with_reducible refine Kd.C_alloc ?_ _) | (with_reducible refine Kd.C_drewN ?_ _) | (with_reducible refine Kd.C_drew ?_)))
             (case side4 => exact HC253_0.out)
             rintro e w' ⟨rfl, ⟨nd, rfl⟩⟩
             refine ⟨_, rfl, ?_⟩
             refine hK.out _ _ ⟨hHeld.1, hHeld.2⟩ (fun hHeld => ?_)
             clear hK K
             refine norm_ (a' := ?_) ?_ ?_
             rotate_left; (focus show Act.put _ (some 67) _ = _; simp only [Act.put, List.setIfInBounds_toArray, List.set_cons_zero, List.set_cons_succ, i64_w, i32_w]; rfl)
             refine pure_ (i := 9) (N := some 68) (v := ?_) (a' := ?_) (stickfullaw15_FirstCells.bm 10 1023) rfl rfl (any_of HT_.out (by kernel_rfl)) (fun _ _ _ h => h) (Or.inl ⟨by rfl, ?_⟩) ?_ ?_
             rotate_left; (focus intro w'; go_simp; with_reducible rfl); rotate_left; (focus simp only [Act.put, List.setIfInBounds_toArray, List.set_cons_zero, List.set_cons_succ, i64_w, i32_w]; rfl)
             refine done_ (done_of HT_.out (by kernel_rfl)) ?_
             try go_wp2
             go_roundg k3
             case measure => have := HJ2.out; have := HJ15.out; have := HK3.out; omega
             case rel => exact ⟨(wrap64 (x9_3 + 1)), (by first | rfl | (simp; done) | (simp [*]; done)), H', ⟨by have := HJ2.out; have := HJ15.out; have := HK3.out; omega⟩, ⟨by (with_reducible repeat (first | apply Kd.S_alloc | apply Kd.S_drewN | apply Kd.S_drew)); exact HO_5.out⟩, ⟨by (with_reducible repeat (first | apply Kd.S_alloc | apply Kd.S_drewN | apply Kd.S_drew)); exact HO_7.out⟩, ⟨by (with_reducible repeat (first | refine blk_drewN ?_ _ | refine blk_drew ?_ | refine blk_alloc ?_ _)); exact BK241.out⟩, ⟨by repeat (first | (with_reducible first | exact HB.out | apply below_alloc | apply pw_below_drewN | apply below_drew1 | refine below_set ?_ GE241.out) | exact HB.out)⟩⟩
            ·replace c29 := Bool.eq_false_iff.mpr c29
             subst c29
             have H1 : (some false) = some r := by rw [if_neg (show ¬ (false = true) by decide)] at H; exact H
             clear H
             have H := H1
             clear H1
             exact absurd ((Option.some.inj H).trans HR_.out) (by decide)
           ·rw [if_neg c27] at H
            exact absurd H (by simp)
          ·rw [if_neg c26] at H
           exact absurd H (by simp)
         ·rw [if_neg c25] at H
          have c25b0 : decide (x9_3 < (t244.length : Int)) = false := decide_eq_false c25
          clear c25
          replace H := Option.bind_eq_some_iff.mp H
          obtain ⟨⟨t255, t258⟩, A330, H⟩ := H
          replace H : (if t258 = 0 then (stickfullaw15_FirstCells.j3 k3 t255 t258 ((t255.length : Int) == 0) l0_0 l0_1 a0_2 a0_3 a0_4 a0_5) else (stickfullaw15_FirstCells.j3 k3 t255 t258 true l0_0 l0_1 a0_2 a0_3 a0_4 a0_5)) = some r := H
          have A33 := Aside0.mk A330
          clear A330
          have HC34 := Aside0.mk H
          clear H
          obtain ⟨Ao35, co35, eo35⟩ := Kd.S_slice HO_5.out
          subst eo35
          obtain ⟨hcz36_0, hcz36_1, hcz36_2, hcz36_3, hcz36_4, hcz36_5⟩ := cz6 BK241
          obtain ⟨hfz36_0, hfz36_1, hfz36_2, hfz36_3, hfz36_4, hfz36_5⟩ := fz6 BK241
          go_upto_region 13 with (first | ((with_reducible refine gate_callee (f := 9) rfl ?_); refine goesB (some 78) rfl rfl Try.func9 #[.slice A0_0 l0_0.length c0_0, .slice A0_1 l0_1.length c0_1, .agg #[.int .i64 a0_2, .int .i64 a0_3], .agg #[.int .i64 a0_4, .int .i64 a0_5]] rfl ?_; (with_reducible refine (first_Lines.calls k3 _ _ l0_0 _ _ l0_1 a0_2 a0_3 a0_4 a0_5 t255 t258 _ ?side1 ?side2 ?side3 ?side4 A33.out).mono ?_); (case side1 => repeat (first | exact (Kd.C_below HR0_0.out HB.out) | (with_reducible refine Kd.C_alloc ?_ _) | (with_reducible refine Kd.C_drewN ?_ _) | (with_reducible refine Kd.C_drew ?_))); (case side2 => exact HC0_0.out); (case side3 => repeat (first | exact (Kd.C_below HR0_1.out HB.out) | (with_reducible refine Kd.C_alloc ?_ _) | (with_reducible refine Kd.C_drewN ?_ _) | (with_reducible refine Kd.C_drew ?_))); (case side4 => exact HC0_1.out); rintro e w37 ⟨v256, rfl, ho0, hb⟩; refine ⟨_, rfl, ?_⟩; replace HO_5 := Aside0.mk (Kd.S_below (by (with_reducible repeat (first | apply Kd.S_alloc | apply Kd.S_drewN | apply Kd.S_drew)); exact HO_5.out) hb); replace HO_7 := Aside0.mk (Kd.S_below (by (with_reducible repeat (first | apply Kd.S_alloc | apply Kd.S_drewN | apply Kd.S_drew)); exact HO_7.out) hb); have HO257 := Aside0.mk (Kd.R_lower ho0 (below_size (bw HB))); replace BK241 := bb BK241 hb; replace HB := bh HB hb; (try clear hb); (try clear hb2); (try clear hk); (try clear hi); (try clear ho0)))
          (try simp only [Act.put, List.setIfInBounds_toArray, List.set_cons_zero, List.set_cons_succ])
          go_cut [87] (fun v87 wc => ∃ (kq : Nat) (x87_33 : Bool), v87 = .bool x87_33 ∧ Aside0 (stickfullaw15_FirstCells.j3 kq t255 t258 x87_33 l0_0 l0_1 a0_2 a0_3 a0_4 a0_5 = some r) ∧ Aside0 (kq ≤ k3) ∧ Aside0 (Kd.R k43 43 wc w.heap.size (fun _ => True) v256 t255) ∧ Aside0 (wc.heap[gb241]? = some (.cells #[(.slice A0_0 l0_0.length c0_0), (.slice A0_1 l0_1.length c0_1), .int .i64 a0_2, .int .i64 a0_3, .int .i64 a0_4, .int .i64 a0_5] 26 (0, 0))) ∧ Aside0 (Below w.heap.size w wc))
          case first =>
           have H := HC34.out
           clear HC34
           by_cases c38 : t258 = 0
           ·rw [if_pos c38] at H
            have c38b0 : (t258 == 0) = true := beq_iff_eq.mpr c38
            have c38b1 : (t258 != 0) = false := bne_eq_false_iff_eq.mpr c38
            clear c38
            (first | rw [c38b0] | (simp only [i64_w, i32_w]; rw [c38b0]) | skip)
            have H' := Aside0.mk H
            clear H
            obtain ⟨Ao39, co39, eo39⟩ := Kd.R_slice HO257.out
            subst eo39
            go_wp2
            go_meet
            case rel => exact ⟨_, (((t255.length : Int) == 0)), (by first | rfl | (simp; done) | (simp [*]; done)), H', ⟨by have := HJ2.out; have := HJ15.out; have := HK3.out; first | omega | exact Nat.le_refl _⟩, ⟨by (with_reducible repeat (first | apply Kd.R_alloc | apply Kd.R_drewN | apply Kd.R_drew)); exact HO257.out⟩, ⟨by (with_reducible repeat (first | refine blk_drewN ?_ _ | refine blk_drew ?_ | refine blk_alloc ?_ _)); exact BK241.out⟩, ⟨by repeat (first | (with_reducible first | exact HB.out | apply below_alloc | apply pw_below_drewN | apply below_drew1 | refine below_set ?_ GE241.out) | exact HB.out)⟩⟩
           ·rw [if_neg c38] at H
            have c38b0 : (t258 == 0) = false := beq_eq_false_iff_ne.mpr c38
            have c38b1 : (t258 != 0) = true := bne_iff_ne.mpr c38
            (first | rw [c38b0] | (simp only [i64_w, i32_w]; rw [c38b0]) | skip)
            have H' := Aside0.mk H
            clear H
            go_wp2
            go_meet
            case rel => exact ⟨_, (true), (by first | rfl | (simp; done) | (simp [*]; done)), H', ⟨by have := HJ2.out; have := HJ15.out; have := HK3.out; first | omega | exact Nat.le_refl _⟩, ⟨by (with_reducible repeat (first | apply Kd.R_alloc | apply Kd.R_drewN | apply Kd.R_drew)); exact HO257.out⟩, ⟨by (with_reducible repeat (first | refine blk_drewN ?_ _ | refine blk_drew ?_ | refine blk_alloc ?_ _)); exact BK241.out⟩, ⟨by repeat (first | (with_reducible first | exact HB.out | apply below_alloc | apply pw_below_drewN | apply below_drew1 | refine below_set ?_ GE241.out) | exact HB.out)⟩⟩
          case rest =>
           clear HC34
           try clear c1
           try clear c2
           try clear p2
           try clear q2
           try clear hx2
           try clear c3
           try clear c4
           try clear c6
           try clear p6
           try clear c7
           try clear c8
           try clear c9
           try clear c11
           try clear c14
           try clear c15
           try clear c16
           try clear c21
           try clear c21b0
           try clear c21b1
           try clear c24
           try clear c25
           try clear c25b0
           try clear p25
           try clear q25
           try clear hx25
           try clear c26
           try clear c26b0
           try clear c27
           try clear c27b0
           try clear c29
           try clear c38
           try clear c38b0
           try clear c38b1
           try clear hcz17_0
           try clear hcz17_1
           try clear hcz17_2
           try clear hcz17_3
           try clear hcz17_4
           try clear hcz17_5
           try clear hcz19_0
           try clear hcz19_1
           try clear hcz19_2
           try clear hcz19_3
           try clear hcz19_4
           try clear hcz19_5
           try clear hcz36_0
           try clear hcz36_1
           try clear hcz36_2
           try clear hcz36_3
           try clear hcz36_4
           try clear hcz36_5
           try clear hcz7_0
           try clear hcz7_1
           try clear hcz7_2
           try clear hcz7_3
           try clear hcz7_4
           try clear hcz7_5
           try clear hcz9_0
           try clear hcz9_1
           try clear hcz9_2
           try clear hcz9_3
           try clear hcz9_4
           try clear hcz9_5
           try clear hfz17_0
           try clear hfz17_1
           try clear hfz17_2
           try clear hfz17_3
           try clear hfz17_4
           try clear hfz17_5
           try clear hfz19_0
           try clear hfz19_1
           try clear hfz19_2
           try clear hfz19_3
           try clear hfz19_4
           try clear hfz19_5
           try clear hfz36_0
           try clear hfz36_1
           try clear hfz36_2
           try clear hfz36_3
           try clear hfz36_4
           try clear hfz36_5
           try clear hfz7_0
           try clear hfz7_1
           try clear hfz7_2
           try clear hfz7_3
           try clear hfz7_4
           try clear hfz7_5
           try clear hfz9_0
           try clear hfz9_1
           try clear hfz9_2
           try clear hfz9_3
           try clear hfz9_4
           try clear hfz9_5
           try clear hx252_0
           try clear hx253_0
           try clear p2
           try clear p252
           try clear p253
           try clear q252
           try clear q253
           obtain ⟨kq, x87_33, rfl, HA, HJ33, HO_10, BK241, HB⟩ := hcut
           cases kq with
           | zero => exact absurd HA.out (by simp [stickfullaw15_FirstCells.j3])
           | succ kj33 =>
            have H := HA.out
            clear HA
            simp only [stickfullaw15_FirstCells.j3] at H
            by_cases c40 : x87_33 = true
            ·subst c40
             have H1 : (if t258 = 0 then (some false) else ((stickfullaw15_head.f kj33).bind fun t259 => (some t259))) = some r := by rw [if_pos rfl] at H; exact H
             clear H
             have H := H1
             clear H1
             by_cases c41 : t258 = 0
             ·rw [if_pos c41] at H
              have c41b0 : (t258 == 0) = true := beq_iff_eq.mpr c41
              have c41b1 : (t258 != 0) = false := bne_eq_false_iff_eq.mpr c41
              clear c41
              exact absurd ((Option.some.inj H).trans HR_.out) (by decide)
             ·rw [if_neg c41] at H
              have c41b0 : (t258 == 0) = false := beq_eq_false_iff_ne.mpr c41
              have c41b1 : (t258 != 0) = true := bne_iff_ne.mpr c41
              replace H := Option.bind_eq_some_iff.mp H
              obtain ⟨t259, A420, H⟩ := H
              replace H : (some t259) = some r := H
              have A42 := Aside0.mk A420
              clear A420
              obtain rfl := Option.some.inj H
              go_wp2_with (first | (go_at_call 8; (with_reducible refine (stickfullaw15_head.calls kj33  t259 _ A42.out).mono ?_); rintro e w43 ⟨rfl, hb⟩; replace HO_10 := Aside0.mk (Kd.R_below (rx HO_10) hb); replace BK241 := bb BK241 hb; replace HB := bh HB hb; (try clear hb); (try clear hb2); (try clear hk); (try clear hi)))
              go_ret
              exact ⟨by first | rfl | (simp [errW_none, errW_some] <;> rfl) | (simp [*, errW_none, errW_some] <;> rfl), by repeat (first | (with_reducible first | exact HB.out | apply below_alloc | apply pw_below_drewN | apply below_drew1 | refine below_set ?_ GE241.out) | exact HB.out)⟩
            ·replace c40 := Bool.eq_false_iff.mpr c40
             subst c40
             have H1 : ((first_Cells.f l0_0 l0_1 t255).bind fun bt260 => (if bt260.2 = 0 then (stickfullaw15_FirstCells.j4 kj33 t255 bt260.1 ((bt260.1.length : Int) != (t255.length : Int)) l0_0 l0_1 a0_2 a0_3 a0_4 a0_5) else (stickfullaw15_FirstCells.j4 kj33 t255 bt260.1 true l0_0 l0_1 a0_2 a0_3 a0_4 a0_5))) = some r := by rw [if_neg (show ¬ (false = true) by decide)] at H; exact H
             clear H
             have H := H1
             clear H1
             replace H := Option.bind_eq_some_iff.mp H
             obtain ⟨⟨t260, t261⟩, A440, H⟩ := H
             replace H : (if t261 = 0 then (stickfullaw15_FirstCells.j4 kj33 t255 t260 ((t260.length : Int) != (t255.length : Int)) l0_0 l0_1 a0_2 a0_3 a0_4 a0_5) else (stickfullaw15_FirstCells.j4 kj33 t255 t260 true l0_0 l0_1 a0_2 a0_3 a0_4 a0_5)) = some r := H
             have A44 := Aside0.mk A440
             clear A440
             have HC45 := Aside0.mk H
             clear H
             obtain ⟨hcz46_0, hcz46_1, hcz46_2, hcz46_3, hcz46_4, hcz46_5⟩ := cz6 BK241
             obtain ⟨hfz46_0, hfz46_1, hfz46_2, hfz46_3, hfz46_4, hfz46_5⟩ := fz6 BK241
             obtain ⟨Ao47, co47, eo47⟩ := Kd.R_slice HO_10.out
             subst eo47
             go_upto_region 16 with (first | ((with_reducible refine gate_callee (f := 14) rfl ?_); refine goesB (some 99) rfl rfl Try.func14 #[.slice A0_0 l0_0.length c0_0, .slice A0_1 l0_1.length c0_1, .slice Ao47 t255.length co47] rfl ?_; (with_reducible refine (first_Cells.calls _ _ l0_0 _ _ l0_1 _ _ t255 t260 t261 _ ?side1 ?side2 ?side3 ?side4 ?side5 ?side6 A44.out).mono ?_); (case side1 => repeat (first | exact (Kd.C_below HR0_0.out HB.out) | (with_reducible refine Kd.C_alloc ?_ _) | (with_reducible refine Kd.C_drewN ?_ _) | (with_reducible refine Kd.C_drew ?_))); (case side2 => exact HC0_0.out); (case side3 => repeat (first | exact (Kd.C_below HR0_1.out HB.out) | (with_reducible refine Kd.C_alloc ?_ _) | (with_reducible refine Kd.C_drewN ?_ _) | (with_reducible refine Kd.C_drew ?_))); (case side4 => exact HC0_1.out); (case side5 => repeat (first | exact (Kd.R_reads' HO_10.out).2.2 | (with_reducible refine Kd.C_alloc ?_ _) | (with_reducible refine Kd.C_drewN ?_ _) | (with_reducible refine Kd.C_drew ?_))); (case side6 => exact (Kd.R_reads' HO_10.out).2.1); rintro e w48 ⟨v262, rfl, ho0, hb⟩; refine ⟨_, rfl, ?_⟩; replace HO_10 := Aside0.mk (Kd.R_below (rx HO_10) hb); have HO263 := Aside0.mk (Kd.S_lower ho0 (below_size (bw HB))); replace BK241 := bb BK241 hb; replace HB := bh HB hb; (try clear hb); (try clear hb2); (try clear hk); (try clear hi); (try clear ho0)))
             (try simp only [Act.put, List.setIfInBounds_toArray, List.set_cons_zero, List.set_cons_succ])
             go_cut [110] (fun v110 wc => ∃ (kq : Nat) (x110_44 : Bool), v110 = .bool x110_44 ∧ Aside0 (stickfullaw15_FirstCells.j4 kq t255 t260 x110_44 l0_0 l0_1 a0_2 a0_3 a0_4 a0_5 = some r) ∧ Aside0 (kq ≤ kj33) ∧ Aside0 (Kd.R k43 43 wc w.heap.size (fun _ => True) (.slice Ao47 t255.length co47) t255) ∧ Aside0 (Kd.S (Kd.slice 46 k46) 22 wc w.heap.size (fun _ => True) v262 t260) ∧ Aside0 (wc.heap[gb241]? = some (.cells #[(.slice A0_0 l0_0.length c0_0), (.slice A0_1 l0_1.length c0_1), .int .i64 a0_2, .int .i64 a0_3, .int .i64 a0_4, .int .i64 a0_5] 26 (0, 0))) ∧ Aside0 (Below w.heap.size w wc))
             case first =>
              have H := HC45.out
              clear HC45
              by_cases c49 : t261 = 0
              ·rw [if_pos c49] at H
               have c49b0 : (t261 == 0) = true := beq_iff_eq.mpr c49
               have c49b1 : (t261 != 0) = false := bne_eq_false_iff_eq.mpr c49
               clear c49
               (first | rw [c49b0] | (simp only [i64_w, i32_w]; rw [c49b0]) | skip)
               have H' := Aside0.mk H
               clear H
               obtain ⟨Ao50, co50, eo50⟩ := Kd.S_slice HO263.out
               subst eo50
               go_wp2
               go_meet
               case rel => exact ⟨_, (((t260.length : Int) != (t255.length : Int))), (by first | rfl | (simp; done) | (simp [*]; done)), H', ⟨by have := HJ2.out; have := HJ15.out; have := HK3.out; have := HJ33.out; first | omega | exact Nat.le_refl _⟩, ⟨by (with_reducible repeat (first | apply Kd.R_alloc | apply Kd.R_drewN | apply Kd.R_drew)); exact HO_10.out⟩, ⟨by (with_reducible repeat (first | apply Kd.S_alloc | apply Kd.S_drewN | apply Kd.S_drew)); exact HO263.out⟩, ⟨by (with_reducible repeat (first | refine blk_drewN ?_ _ | refine blk_drew ?_ | refine blk_alloc ?_ _)); exact BK241.out⟩, ⟨by repeat (first | (with_reducible first | exact HB.out | apply below_alloc | apply pw_below_drewN | apply below_drew1 | refine below_set ?_ GE241.out) | exact HB.out)⟩⟩
              ·rw [if_neg c49] at H
               have c49b0 : (t261 == 0) = false := beq_eq_false_iff_ne.mpr c49
               have c49b1 : (t261 != 0) = true := bne_iff_ne.mpr c49
               (first | rw [c49b0] | (simp only [i64_w, i32_w]; rw [c49b0]) | skip)
               have H' := Aside0.mk H
               clear H
               go_wp2
               go_meet
               case rel => exact ⟨_, (true), (by first | rfl | (simp; done) | (simp [*]; done)), H', ⟨by have := HJ2.out; have := HJ15.out; have := HK3.out; have := HJ33.out; first | omega | exact Nat.le_refl _⟩, ⟨by (with_reducible repeat (first | apply Kd.R_alloc | apply Kd.R_drewN | apply Kd.R_drew)); exact HO_10.out⟩, ⟨by (with_reducible repeat (first | apply Kd.S_alloc | apply Kd.S_drewN | apply Kd.S_drew)); exact HO263.out⟩, ⟨by (with_reducible repeat (first | refine blk_drewN ?_ _ | refine blk_drew ?_ | refine blk_alloc ?_ _)); exact BK241.out⟩, ⟨by repeat (first | (with_reducible first | exact HB.out | apply below_alloc | apply pw_below_drewN | apply below_drew1 | refine below_set ?_ GE241.out) | exact HB.out)⟩⟩
             case rest =>
              clear HC45
              try clear c1
              try clear c2
              try clear p2
              try clear q2
              try clear hx2
              try clear c3
              try clear c4
              try clear c6
              try clear p6
              try clear c7
              try clear c8
              try clear c9
              try clear c11
              try clear c14
              try clear c15
              try clear c16
              try clear c21
              try clear c21b0
              try clear c21b1
              try clear c24
              try clear c25
              try clear c25b0
              try clear p25
              try clear q25
              try clear hx25
              try clear c26
              try clear c26b0
              try clear c27
              try clear c27b0
              try clear c29
              try clear c38
              try clear c38b0
              try clear c38b1
              try clear c40
              try clear c41
              try clear c41b0
              try clear c41b1
              try clear c49
              try clear c49b0
              try clear c49b1
              try clear hcz17_0
              try clear hcz17_1
              try clear hcz17_2
              try clear hcz17_3
              try clear hcz17_4
              try clear hcz17_5
              try clear hcz19_0
              try clear hcz19_1
              try clear hcz19_2
              try clear hcz19_3
              try clear hcz19_4
              try clear hcz19_5
              try clear hcz36_0
              try clear hcz36_1
              try clear hcz36_2
              try clear hcz36_3
              try clear hcz36_4
              try clear hcz36_5
              try clear hcz46_0
              try clear hcz46_1
              try clear hcz46_2
              try clear hcz46_3
              try clear hcz46_4
              try clear hcz46_5
              try clear hcz7_0
              try clear hcz7_1
              try clear hcz7_2
              try clear hcz7_3
              try clear hcz7_4
              try clear hcz7_5
              try clear hcz9_0
              try clear hcz9_1
              try clear hcz9_2
              try clear hcz9_3
              try clear hcz9_4
              try clear hcz9_5
              try clear hfz17_0
              try clear hfz17_1
              try clear hfz17_2
              try clear hfz17_3
              try clear hfz17_4
              try clear hfz17_5
              try clear hfz19_0
              try clear hfz19_1
              try clear hfz19_2
              try clear hfz19_3
              try clear hfz19_4
              try clear hfz19_5
              try clear hfz36_0
              try clear hfz36_1
              try clear hfz36_2
              try clear hfz36_3
              try clear hfz36_4
              try clear hfz36_5
              try clear hfz46_0
              try clear hfz46_1
              try clear hfz46_2
              try clear hfz46_3
              try clear hfz46_4
              try clear hfz46_5
              try clear hfz7_0
              try clear hfz7_1
              try clear hfz7_2
              try clear hfz7_3
              try clear hfz7_4
              try clear hfz7_5
              try clear hfz9_0
              try clear hfz9_1
              try clear hfz9_2
              try clear hfz9_3
              try clear hfz9_4
              try clear hfz9_5
              try clear hx252_0
              try clear hx253_0
              try clear p2
              try clear p25
              try clear p252
              try clear p253
              try clear p6
              try clear q2
              try clear q25
              try clear q252
              try clear q253
              obtain ⟨kq, x110_44, rfl, HA, HJ44, HO_10, HO_12, BK241, HB⟩ := hcut
              cases kq with
              | zero => exact absurd HA.out (by simp [stickfullaw15_FirstCells.j4])
              | succ kj44 =>
               have H := HA.out
               clear HA
               simp only [stickfullaw15_FirstCells.j4] at H
               by_cases c51 : x110_44 = true
               ·subst c51
                have H1 : (some false) = some r := by rw [if_pos rfl] at H; exact H
                clear H
                have H := H1
                clear H1
                exact absurd ((Option.some.inj H).trans HR_.out) (by decide)
               ·replace c51 := Bool.eq_false_iff.mpr c51
                subst c51
                have H1 : (stickfullaw15_FirstCells.l1 kj44 t255 t260 ([] : List (S46)) 0 l0_0 l0_1 a0_2 a0_3 a0_4 a0_5) = some r := by rw [if_neg (show ¬ (false = true) by decide)] at H; exact H
                clear H
                have H := H1
                clear H1
                have H' := Aside0.mk H
                clear H
                go_wp2
                go_loopg [14, 15] kj44 (fun kq v14 v15 w' => ∃ (x14_6 : List (S46)) (x15_6 : Int), v15 = .int .i64 x15_6 ∧ Aside0 (stickfullaw15_FirstCells.l1 kq t255 t260 x14_6 x15_6 l0_0 l0_1 a0_2 a0_3 a0_4 a0_5 = some r) ∧ Aside0 (kq ≤ kj44) ∧ Aside0 (Kd.R k43 43 w' w.heap.size (fun _ => True) (.slice Ao47 t255.length co47) t255) ∧ Aside0 (Kd.S (Kd.slice 46 k46) 22 w' w.heap.size (fun k_ => some k_ ≠ (v14 : Value).ownBlock) v262 t260) ∧ Aside0 (Kd.R k46 46 w' w.heap.size (fun _ => True) v14 x14_6) ∧ Aside0 (w'.heap[gb241]? = some (.cells #[(.slice A0_0 l0_0.length c0_0), (.slice A0_1 l0_1.length c0_1), .int .i64 a0_2, .int .i64 a0_3, .int .i64 a0_4, .int .i64 a0_5] 26 (0, 0))) ∧ Aside0 (Below w.heap.size w w'))
                case atStart => exact ⟨(([] : List (S46))), (0), (by first | rfl | (simp; done) | (simp [*]; done)), H', ⟨Nat.le_refl _⟩, ⟨by (with_reducible repeat (first | apply Kd.R_alloc | apply Kd.R_drewN | apply Kd.R_drew)); exact HO_10.out⟩, ⟨by (with_reducible repeat (first | apply Kd.S_alloc | apply Kd.S_drewN | apply Kd.S_drew)); exact Kd.S_mono HO_12.out (fun _ hk => (by simp [Value.ownBlock]))⟩, ⟨by first | exact Kd.R_nil _ _ _ _ _ | exact Kd.N_nil _ _ _ _ _ | exact Kd.V_nil _ _ _ _ _ | exact Kd.Q_nil _ _ _ _ _ | exact Kd.S_nil _ _ _ _ _⟩, ⟨by (with_reducible repeat (first | refine blk_drewN ?_ _ | refine blk_drew ?_ | refine blk_alloc ?_ _)); exact BK241.out⟩, ⟨by repeat (first | (with_reducible first | exact HB.out | apply below_alloc | apply pw_below_drewN | apply below_drew1 | refine below_set ?_ GE241.out) | exact HB.out)⟩⟩
                case round =>
                 clear H'
                 try clear c1
                 try clear c2
                 try clear p2
                 try clear q2
                 try clear hx2
                 try clear c3
                 try clear c4
                 try clear c5
                 try clear c6
                 try clear p6
                 try clear c7
                 try clear c8
                 try clear c9
                 try clear c11
                 try clear c14
                 try clear c15
                 try clear c16
                 try clear c21
                 try clear c21b0
                 try clear c21b1
                 try clear c24
                 try clear c25
                 try clear c25b0
                 try clear p25
                 try clear q25
                 try clear hx25
                 try clear c26
                 try clear c26b0
                 try clear c27
                 try clear c27b0
                 try clear c29
                 try clear c38
                 try clear c38b0
                 try clear c38b1
                 try clear c40
                 try clear c41
                 try clear c41b0
                 try clear c41b1
                 try clear c49
                 try clear c49b0
                 try clear c49b1
                 try clear c51
                 try clear hcz17_0
                 try clear hcz17_1
                 try clear hcz17_2
                 try clear hcz17_3
                 try clear hcz17_4
                 try clear hcz17_5
                 try clear hcz19_0
                 try clear hcz19_1
                 try clear hcz19_2
                 try clear hcz19_3
                 try clear hcz19_4
                 try clear hcz19_5
                 try clear hcz36_0
                 try clear hcz36_1
                 try clear hcz36_2
                 try clear hcz36_3
                 try clear hcz36_4
                 try clear hcz36_5
                 try clear hcz46_0
                 try clear hcz46_1
                 try clear hcz46_2
                 try clear hcz46_3
                 try clear hcz46_4
                 try clear hcz46_5
                 try clear hcz7_0
                 try clear hcz7_1
                 try clear hcz7_2
                 try clear hcz7_3
                 try clear hcz7_4
                 try clear hcz7_5
                 try clear hcz9_0
                 try clear hcz9_1
                 try clear hcz9_2
                 try clear hcz9_3
                 try clear hcz9_4
                 try clear hcz9_5
                 try clear hfz17_0
                 try clear hfz17_1
                 try clear hfz17_2
                 try clear hfz17_3
                 try clear hfz17_4
                 try clear hfz17_5
                 try clear hfz19_0
                 try clear hfz19_1
                 try clear hfz19_2
                 try clear hfz19_3
                 try clear hfz19_4
                 try clear hfz19_5
                 try clear hfz36_0
                 try clear hfz36_1
                 try clear hfz36_2
                 try clear hfz36_3
                 try clear hfz36_4
                 try clear hfz36_5
                 try clear hfz46_0
                 try clear hfz46_1
                 try clear hfz46_2
                 try clear hfz46_3
                 try clear hfz46_4
                 try clear hfz46_5
                 try clear hfz7_0
                 try clear hfz7_1
                 try clear hfz7_2
                 try clear hfz7_3
                 try clear hfz7_4
                 try clear hfz7_5
                 try clear hfz9_0
                 try clear hfz9_1
                 try clear hfz9_2
                 try clear hfz9_3
                 try clear hfz9_4
                 try clear hfz9_5
                 try clear hx252_0
                 try clear hx253_0
                 try clear p2
                 try clear p25
                 try clear p252
                 try clear p253
                 try clear p6
                 try clear q2
                 try clear q25
                 try clear q252
                 try clear q253
                 obtain ⟨x14_6, x15_6, rfl, HA, HK6, HO_10, HO_12, HO_14, BK241, HB⟩ := hrel
                 cases gk with
                 | zero => exact absurd HA.out (by simp [stickfullaw15_FirstCells.l1])
                 | succ k6 =>
                  have H := HA.out
                  clear HA
                  simp only [stickfullaw15_FirstCells.l1] at H
                  by_cases c52 : x15_6 < (t260.length : Int)
                  ·rw [if_pos c52] at H
                   have c52b0 : decide (x15_6 < (t260.length : Int)) = true := decide_eq_true c52
                   clear c52
                   by_cases c53 : 0 ≤ x15_6
                   ·rw [if_pos c53] at H
                    have c53b0 : decide (0 ≤ x15_6) = true := decide_eq_true c53
                    clear c53
                    by_cases c54 : x14_6.length + (rd_L4 t260 x15_6).length < 3518437208883
                    ·rw [if_pos c54] at H
                     have LMc54 := Aside0.mk c54
                     clear c54
                     obtain ⟨y265, hy265⟩ : ∃ y_ : List (S46), y_ = (x14_6 ++ (rd_L4 t260 x15_6)) := ⟨_, rfl⟩
                     replace H : (stickfullaw15_FirstCells.l1 k6 t255 t260 y265 (wrap64 (x15_6 + 1)) l0_0 l0_1 a0_2 a0_3 a0_4 a0_5) = some r := by first | (rw [hy265]; with_reducible exact H) | (have H2_ := (Option.bind_some _ _).symm.trans H; rw [hy265]; with_reducible exact H2_) | (have H2_ := (Option.bind_some _ _).symm.trans H; with_reducible exact H2_) | with_reducible exact H | (rw [hy265]; exact H) | exact H
                     have Ny265 := Aside0.mk hy265
                     clear hy265
                     have H' := Aside0.mk H
                     clear H
                     obtain ⟨Ao55, co55, eo55⟩ := Kd.S_slice HO_12.out
                     subst eo55
                     have p264 : 0 ≤ (x15_6 : Int) := of_decide_eq_true (by first | (with_reducible assumption) | assumption)
                     have q264 : x15_6 < (t260.length : Int) := of_decide_eq_true (by first | (with_reducible assumption) | assumption)
                     obtain ⟨ad264, A264_0, c264_0, e264, hx264_0, hl264_0, hi264_0⟩ := at_L4 (Kd.S_reads' HO_12.out).2.2 x15_6 p264 q264
                     cases e264
                     obtain ⟨ce264, hce264, hMe264, hcc264⟩ := Kd.S_get HO_12.out [] x15_6 p264 (by first | exact q264 | exact of_decide_eq_true (by first | (with_reducible assumption) | assumption) | (have e_ := (Kd.S_reads' HO_12.out).1; omega))
                     obtain ⟨ve264_0, rfl, ge264_0⟩ := hMe264
                     have hv264_0 := hcc264 0 _ rfl
                     rw [Nat.add_zero, show ((Kd.slice 46 k46)).sz = 1 from rfl, Nat.mul_one] at hv264_0
                     replace hv264_0 := Option.some.inj (hv264_0.symm.trans hx264_0)
                     rw [hv264_0] at ge264_0
                     have HL264_0 := Aside0.mk (show Kd.R k46 46 _ _ _ _ (rd_L4 t260 x15_6) from ge264_0)
                     clear hv264_0 ge264_0
                     clear hcc264 hce264
                     have HR264_0 := Aside0.mk hi264_0
                     have HC264_0 := Aside0.mk hl264_0
                     clear hi264_0 hl264_0
                     replace p264 := eq_true p264
                     replace q264 := eq_true q264
                     go_wp2_with (first | ((with_reducible refine gate_builtin (b := .append) (xs := #[.tmp 117, .tmp 121]) rfl ?_); (try (refine gate_guard (by rfl) ?_; dsimp only)); at_builtin; refine Kd.R_append_rows k46 (w0 := w) w.heap.size rfl (.tmp 117) (.tmp 121) 22 46 (.agg #[(.int .u8 0), (.int .i64 0), (.int .i64 0), (.int .i64 0), (.bool false), (.bool false)]) 40 rfl Try.underlying22 info46 rfl (by decide) (by omega) u14 x14_6 (rd_L4 t260 x15_6) _ _ _ (fun _ => True) (fun _ => False) rfl rfl ?aO ?aR (fun _ _ h => h) (fun _ h => h.elim) ?aF ?aB ?aS ?aL ?_; (case aR => repeat (first | exact (by repeat (first | (with_reducible exact HR264_0.out) | (with_reducible refine Kd.C_alloc ?_ _) | (with_reducible refine Kd.C_drewN ?_ _) | (with_reducible refine Kd.C_drew ?_) | exact HR264_0.out)) | (with_reducible refine Kd.C_alloc ?_ _) | (with_reducible refine Kd.C_drewN ?_ _) | (with_reducible refine Kd.C_drew ?_))); (case aB => exact (bw HB)); (case aF => exact (fun _ _ => trivial)); (case aO => exact (rx HO_14)); (case aS => exact (below_size (bw HB))); (case aL => have := LMc54.out; omega); intro v266 w56 ho hb hg hat; rw [← Ny265.out] at ho; replace HO_10 := Aside0.mk (Kd.R_over' (rx HO_10) (Kd.R_typed (rx HO_14)) (by decide) hg); replace HO_12 := Aside0.mk (Kd.S_after (ok := (fun _ => True)) (by (with_reducible repeat (first | apply Kd.S_alloc | apply Kd.S_drewN | apply Kd.S_drew)); exact Kd.S_mono HO_12.out (fun _ hk => ⟨trivial, hk⟩)) hg hat); replace BK241 := Aside0.mk (blk_grown (bx BK241) hg (by first | exact Kd.R_ne HO_14.out BK241.out (by decide) | exact (fun e => by have z := And.left HO_14.out _ e.symm; simp at z))); replace HL264_0 := Aside0.mk (Kd.R_after (ok := (fun k_ => some k_ ≠ (.slice (some ad264) t260.length co55 : Value).ownBlock)) (by (with_reducible repeat (first | apply Kd.R_alloc | apply Kd.R_drewN | apply Kd.R_drew)); exact Kd.R_mono HL264_0.out (fun _ hk => ⟨hk.2, hk.1⟩)) hg hat); replace HB := Aside0.mk (hb); have HO267 := Aside0.mk (ho); clear HO_14; clear ho hb hg hat))
                     go_roundg k6
                     case measure => have := HJ2.out; have := HJ15.out; have := HK3.out; have := HJ33.out; have := HJ44.out; have := HK6.out; omega
                     case rel => exact ⟨(y265), (wrap64 (x15_6 + 1)), (by first | rfl | (simp; done) | (simp [*]; done)), H', ⟨by have := HJ2.out; have := HJ15.out; have := HK3.out; have := HJ33.out; have := HJ44.out; have := HK6.out; omega⟩, ⟨by (with_reducible repeat (first | apply Kd.R_alloc | apply Kd.R_drewN | apply Kd.R_drew)); exact HO_10.out⟩, ⟨by (with_reducible repeat (first | apply Kd.S_alloc | apply Kd.S_drewN | apply Kd.S_drew)); exact Kd.S_mono HO_12.out (fun _ hk => hk.2)⟩, ⟨by (with_reducible repeat (first | apply Kd.R_alloc | apply Kd.R_drewN | apply Kd.R_drew)); exact HO267.out⟩, ⟨by (with_reducible repeat (first | refine blk_drewN ?_ _ | refine blk_drew ?_ | refine blk_alloc ?_ _)); exact BK241.out⟩, ⟨by repeat (first | (with_reducible first | exact HB.out | apply below_alloc | apply pw_below_drewN | apply below_drew1 | refine below_set ?_ GE241.out) | exact HB.out)⟩⟩
                    ·rw [if_neg c54] at H
                     exact absurd H (by simp)
                   ·rw [if_neg c53] at H
                    exact absurd H (by simp)
                  ·rw [if_neg c52] at H
                   have c52b0 : decide (x15_6 < (t260.length : Int)) = false := decide_eq_false c52
                   clear c52
                   by_cases c57 : 0 < (t255.length : Int)
                   ·rw [if_pos c57] at H
                    have c57b0 : decide (0 < (t255.length : Int)) = true := decide_eq_true c57
                    have c57b1 : decide (0 < t255.length) = true := decide_eq_true (by omega)
                    clear c57
                    have HC58 := Aside0.mk H
                    clear H
                    obtain ⟨Ao59, co59, eo59⟩ := Kd.S_slice HO_12.out
                    subst eo59
                    have p268 : 0 ≤ (0 : Int) := (by omega)
                    have q268 : 0 < (t255.length : Int) := of_decide_eq_true (by first | (with_reducible assumption) | assumption)
                    obtain ⟨ad268, e268, hx268_0, hx268_1, hx268_2⟩ := at_T43 (Kd.R_reads' HO_10.out).2.2 0 p268 q268
                    cases e268
                    have qi268 : (0 < t255.length) = True := eq_true (by omega)
                    (try rw [show ((0 : Int)).toNat = 0 from rfl] at hx268_0)
                    (try rw [show 0 * 3 = 0 from rfl] at hx268_0)
                    (try rw [Addr.add_zero'] at hx268_0)
                    (try rw [show ((0 : Int)).toNat = 0 from rfl] at hx268_1)
                    (try rw [show 0 * 3 = 0 from rfl] at hx268_1)
                    (try rw [Addr.add_zero'] at hx268_1)
                    (try rw [show ((0 : Int)).toNat = 0 from rfl] at hx268_2)
                    (try rw [show 0 * 3 = 0 from rfl] at hx268_2)
                    (try rw [Addr.add_zero'] at hx268_2)
                    replace p268 := eq_true p268
                    replace q268 := eq_true q268
                    go_upto_region 24 with (fail)
                    go_cut [135] (fun v135 wc => ∃ (kq : Nat) (x135_57 : Bool), v135 = .bool x135_57 ∧ Aside0 (stickfullaw15_FirstCells.j6 kq x14_6 ((rd_T43 t255 0).f1) x135_57 l0_0 l0_1 a0_2 a0_3 a0_4 a0_5 = some r) ∧ Aside0 (kq ≤ k6) ∧ Aside0 (Kd.R k46 46 wc w.heap.size (fun _ => True) u14 x14_6) ∧ Aside0 (wc.heap[gb241]? = some (.cells #[(.slice A0_0 l0_0.length c0_0), (.slice A0_1 l0_1.length c0_1), .int .i64 a0_2, .int .i64 a0_3, .int .i64 a0_4, .int .i64 a0_5] 26 (0, 0))) ∧ Aside0 (Below w.heap.size w wc))
                    case first =>
                     have H := HC58.out
                     clear HC58
                     by_cases c60 : ((rd_T43 t255 0).f1) < 0
                     ·rw [if_pos c60] at H
                      have c60b0 : decide (((rd_T43 t255 0).f1) < 0) = true := decide_eq_true c60
                      clear c60
                      (first | rw [c60b0] | (simp only [i64_w, i32_w]; rw [c60b0]) | skip)
                      have H' := Aside0.mk H
                      clear H
                      go_wp2
                      go_meet
                      case rel => exact ⟨_, (true), (by first | rfl | (simp; done) | (simp [*]; done)), H', ⟨by have := HJ2.out; have := HJ15.out; have := HK3.out; have := HJ33.out; have := HJ44.out; have := HK6.out; first | omega | exact Nat.le_refl _⟩, ⟨by (with_reducible repeat (first | apply Kd.R_alloc | apply Kd.R_drewN | apply Kd.R_drew)); exact HO_14.out⟩, ⟨by (with_reducible repeat (first | refine blk_drewN ?_ _ | refine blk_drew ?_ | refine blk_alloc ?_ _)); exact BK241.out⟩, ⟨by repeat (first | (with_reducible first | exact HB.out | apply below_alloc | apply pw_below_drewN | apply below_drew1 | refine below_set ?_ GE241.out) | exact HB.out)⟩⟩
                     ·rw [if_neg c60] at H
                      have c60b0 : decide (((rd_T43 t255 0).f1) < 0) = false := decide_eq_false c60
                      clear c60
                      (first | rw [c60b0] | (simp only [i64_w, i32_w]; rw [c60b0]) | skip)
                      have H' := Aside0.mk H
                      clear H
                      obtain ⟨hcz61_0, hcz61_1, hcz61_2, hcz61_3, hcz61_4, hcz61_5⟩ := cz6 BK241
                      obtain ⟨hfz61_0, hfz61_1, hfz61_2, hfz61_3, hfz61_4, hfz61_5⟩ := fz6 BK241
                      go_wp2
                      go_meet
                      case rel => exact ⟨_, (decide (((rd_T43 t255 0).f1) > (l0_0.length : Int))), (by first | rfl | (simp; done) | (simp [*]; done)), H', ⟨by have := HJ2.out; have := HJ15.out; have := HK3.out; have := HJ33.out; have := HJ44.out; have := HK6.out; first | omega | exact Nat.le_refl _⟩, ⟨by (with_reducible repeat (first | apply Kd.R_alloc | apply Kd.R_drewN | apply Kd.R_drew)); exact HO_14.out⟩, ⟨by (with_reducible repeat (first | refine blk_drewN ?_ _ | refine blk_drew ?_ | refine blk_alloc ?_ _)); exact BK241.out⟩, ⟨by repeat (first | (with_reducible first | exact HB.out | apply below_alloc | apply pw_below_drewN | apply below_drew1 | refine below_set ?_ GE241.out) | exact HB.out)⟩⟩
                    case rest =>
                     clear HC58
                     try clear c1
                     try clear c2
                     try clear p2
                     try clear q2
                     try clear hx2
                     try clear qi2
                     try clear c3
                     try clear c4
                     try clear c5
                     try clear c6
                     try clear p6
                     try clear c7
                     try clear c8
                     try clear c9
                     try clear c11
                     try clear c14
                     try clear c15
                     try clear c16
                     try clear c21
                     try clear c21b0
                     try clear c21b1
                     try clear c24
                     try clear c25
                     try clear c25b0
                     try clear p25
                     try clear q25
                     try clear hx25
                     try clear c26
                     try clear c26b0
                     try clear p26
                     try clear q26
                     try clear hx26
                     try clear qi26
                     try clear c27
                     try clear c27b0
                     try clear c29
                     try clear c38
                     try clear c38b0
                     try clear c38b1
                     try clear c40
                     try clear c41
                     try clear c41b0
                     try clear c41b1
                     try clear c49
                     try clear c49b0
                     try clear c49b1
                     try clear c51
                     try clear c52
                     try clear c52b0
                     try clear c53
                     try clear c53b0
                     try clear c54
                     try clear c57
                     try clear c57b0
                     try clear c57b1
                     try clear c60
                     try clear c60b0
                     try clear hcz17_0
                     try clear hcz17_1
                     try clear hcz17_2
                     try clear hcz17_3
                     try clear hcz17_4
                     try clear hcz17_5
                     try clear hcz19_0
                     try clear hcz19_1
                     try clear hcz19_2
                     try clear hcz19_3
                     try clear hcz19_4
                     try clear hcz19_5
                     try clear hcz36_0
                     try clear hcz36_1
                     try clear hcz36_2
                     try clear hcz36_3
                     try clear hcz36_4
                     try clear hcz36_5
                     try clear hcz46_0
                     try clear hcz46_1
                     try clear hcz46_2
                     try clear hcz46_3
                     try clear hcz46_4
                     try clear hcz46_5
                     try clear hcz61_0
                     try clear hcz61_1
                     try clear hcz61_2
                     try clear hcz61_3
                     try clear hcz61_4
                     try clear hcz61_5
                     try clear hcz7_0
                     try clear hcz7_1
                     try clear hcz7_2
                     try clear hcz7_3
                     try clear hcz7_4
                     try clear hcz7_5
                     try clear hcz9_0
                     try clear hcz9_1
                     try clear hcz9_2
                     try clear hcz9_3
                     try clear hcz9_4
                     try clear hcz9_5
                     try clear hfz17_0
                     try clear hfz17_1
                     try clear hfz17_2
                     try clear hfz17_3
                     try clear hfz17_4
                     try clear hfz17_5
                     try clear hfz19_0
                     try clear hfz19_1
                     try clear hfz19_2
                     try clear hfz19_3
                     try clear hfz19_4
                     try clear hfz19_5
                     try clear hfz36_0
                     try clear hfz36_1
                     try clear hfz36_2
                     try clear hfz36_3
                     try clear hfz36_4
                     try clear hfz36_5
                     try clear hfz46_0
                     try clear hfz46_1
                     try clear hfz46_2
                     try clear hfz46_3
                     try clear hfz46_4
                     try clear hfz46_5
                     try clear hfz61_0
                     try clear hfz61_1
                     try clear hfz61_2
                     try clear hfz61_3
                     try clear hfz61_4
                     try clear hfz61_5
                     try clear hfz7_0
                     try clear hfz7_1
                     try clear hfz7_2
                     try clear hfz7_3
                     try clear hfz7_4
                     try clear hfz7_5
                     try clear hfz9_0
                     try clear hfz9_1
                     try clear hfz9_2
                     try clear hfz9_3
                     try clear hfz9_4
                     try clear hfz9_5
                     try clear hx252_0
                     try clear hx253_0
                     try clear hx264_0
                     try clear hx268_0
                     try clear hx268_1
                     try clear hx268_2
                     try clear p2
                     try clear p25
                     try clear p252
                     try clear p253
                     try clear p264
                     try clear p268
                     try clear p6
                     try clear q2
                     try clear q25
                     try clear q252
                     try clear q253
                     try clear q264
                     try clear q268
                     obtain ⟨kq, x135_57, rfl, HA, HJ57, HO_14, BK241, HB⟩ := hcut
                     cases kq with
                     | zero => exact absurd HA.out (by simp [stickfullaw15_FirstCells.j6])
                     | succ kj57 =>
                      have H := HA.out
                      clear HA
                      simp only [stickfullaw15_FirstCells.j6] at H
                      by_cases c62 : x135_57 = true
                      ·subst c62
                       have H1 : (some false) = some r := by rw [if_pos rfl] at H; exact H
                       clear H
                       have H := H1
                       clear H1
                       exact absurd ((Option.some.inj H).trans HR_.out) (by decide)
                      ·replace c62 := Bool.eq_false_iff.mpr c62
                       subst c62
                       have H1 : ((some (([] : List (S46)) : List (S46))).bind fun y269 => (if 0 ≤ ((rd_T43 t255 0).f1) then (if ((rd_T43 t255 0).f1) ≤ (l0_0.length : Int) then ((some (l0_0.take (((rd_T43 t255 0).f1) : Int).toNat : List (S46))).bind fun y272 => (if y269.length + y272.length < 3518437208883 then ((some (y269 ++ y272 : List (S46))).bind fun y276 => (if ((rd_T43 t255 0).f1) ≤ (l0_1.length : Int) then ((some (l0_1.drop (((rd_T43 t255 0).f1) : Int).toNat : List (S46))).bind fun y279 => (if y276.length + y279.length < 3518437208883 then ((stickfulref11_Same.f kj57 x14_6 (y276 ++ y279)).bind fun t286 => (if t286 = true then ((stickfullaw15_head.f kj57).bind fun t287 => (some t287)) else (some false))) else (none))) else (none))) else (none))) else (none)) else (none))) = some r := by rw [if_neg (show ¬ (false = true) by decide)] at H; exact H
                       clear H
                       have H := H1
                       clear H1
                       obtain ⟨y269, hy269⟩ : ∃ y_ : List (S46), y_ = (([] : List (S46))) := ⟨_, rfl⟩
                       replace H : (if 0 ≤ ((rd_T43 t255 0).f1) then (if ((rd_T43 t255 0).f1) ≤ (l0_0.length : Int) then ((some (l0_0.take (((rd_T43 t255 0).f1) : Int).toNat : List (S46))).bind fun y272 => (if y269.length + y272.length < 3518437208883 then ((some (y269 ++ y272 : List (S46))).bind fun y276 => (if ((rd_T43 t255 0).f1) ≤ (l0_1.length : Int) then ((some (l0_1.drop (((rd_T43 t255 0).f1) : Int).toNat : List (S46))).bind fun y279 => (if y276.length + y279.length < 3518437208883 then ((stickfulref11_Same.f kj57 x14_6 (y276 ++ y279)).bind fun t286 => (if t286 = true then ((stickfullaw15_head.f kj57).bind fun t287 => (some t287)) else (some false))) else (none))) else (none))) else (none))) else (none)) else (none)) = some r := by first | (rw [hy269]; with_reducible exact H) | (have H2_ := (Option.bind_some _ _).symm.trans H; rw [hy269]; with_reducible exact H2_) | (have H2_ := (Option.bind_some _ _).symm.trans H; with_reducible exact H2_) | with_reducible exact H | (rw [hy269]; exact H) | exact H
                       have Ny269 := Aside0.mk hy269
                       clear hy269
                       by_cases c63 : 0 ≤ ((rd_T43 t255 0).f1)
                       ·rw [if_pos c63] at H
                        have c63b0 := eq_true c63
                        have c63b1 : decide (0 ≤ ((rd_T43 t255 0).f1)) = true := decide_eq_true c63
                        clear c63
                        by_cases c64 : ((rd_T43 t255 0).f1) ≤ (l0_0.length : Int)
                        ·rw [if_pos c64] at H
                         have c64b0 := eq_true c64
                         have c64b1 : decide (((rd_T43 t255 0).f1) ≤ (l0_0.length : Int)) = true := decide_eq_true c64
                         clear c64
                         obtain ⟨y272, hy272⟩ : ∃ y_ : List (S46), y_ = (l0_0.take (((rd_T43 t255 0).f1) : Int).toNat) := ⟨_, rfl⟩
                         replace H : (if y269.length + y272.length < 3518437208883 then ((some (y269 ++ y272 : List (S46))).bind fun y276 => (if ((rd_T43 t255 0).f1) ≤ (l0_1.length : Int) then ((some (l0_1.drop (((rd_T43 t255 0).f1) : Int).toNat : List (S46))).bind fun y279 => (if y276.length + y279.length < 3518437208883 then ((stickfulref11_Same.f kj57 x14_6 (y276 ++ y279)).bind fun t286 => (if t286 = true then ((stickfullaw15_head.f kj57).bind fun t287 => (some t287)) else (some false))) else (none))) else (none))) else (none)) = some r := by first | (rw [hy272]; with_reducible exact H) | (have H2_ := (Option.bind_some _ _).symm.trans H; rw [hy272]; with_reducible exact H2_) | (have H2_ := (Option.bind_some _ _).symm.trans H; with_reducible exact H2_) | with_reducible exact H | (rw [hy272]; exact H) | exact H
                         have Ny272 := Aside0.mk hy272
                         clear hy272
                         by_cases c65 : y269.length + y272.length < 3518437208883
                         ·rw [if_pos c65] at H
                          have LMc65 := Aside0.mk c65
                          clear c65
                          obtain ⟨y276, hy276⟩ : ∃ y_ : List (S46), y_ = (y269 ++ y272) := ⟨_, rfl⟩
                          replace H : (if ((rd_T43 t255 0).f1) ≤ (l0_1.length : Int) then ((some (l0_1.drop (((rd_T43 t255 0).f1) : Int).toNat : List (S46))).bind fun y279 => (if y276.length + y279.length < 3518437208883 then ((stickfulref11_Same.f kj57 x14_6 (y276 ++ y279)).bind fun t286 => (if t286 = true then ((stickfullaw15_head.f kj57).bind fun t287 => (some t287)) else (some false))) else (none))) else (none)) = some r := by first | (rw [hy276]; with_reducible exact H) | (have H2_ := (Option.bind_some _ _).symm.trans H; rw [hy276]; with_reducible exact H2_) | (have H2_ := (Option.bind_some _ _).symm.trans H; with_reducible exact H2_) | with_reducible exact H | (rw [hy276]; exact H) | exact H
                          have Ny276 := Aside0.mk hy276
                          clear hy276
                          have c66b0 := eq_true (of_decide_eq_true (by first | (with_reducible assumption) | assumption) : 0 ≤ ((rd_T43 t255 0).f1))
                          by_cases c67 : ((rd_T43 t255 0).f1) ≤ (l0_1.length : Int)
                          ·rw [if_pos c67] at H
                           have c67b0 := eq_true c67
                           have c67b1 : decide (((rd_T43 t255 0).f1) ≤ (l0_1.length : Int)) = true := decide_eq_true c67
                           clear c67
                           obtain ⟨y279, hy279⟩ : ∃ y_ : List (S46), y_ = (l0_1.drop (((rd_T43 t255 0).f1) : Int).toNat) := ⟨_, rfl⟩
                           replace H : (if y276.length + y279.length < 3518437208883 then ((stickfulref11_Same.f kj57 x14_6 (y276 ++ y279)).bind fun t286 => (if t286 = true then ((stickfullaw15_head.f kj57).bind fun t287 => (some t287)) else (some false))) else (none)) = some r := by first | (rw [hy279]; with_reducible exact H) | (have H2_ := (Option.bind_some _ _).symm.trans H; rw [hy279]; with_reducible exact H2_) | (have H2_ := (Option.bind_some _ _).symm.trans H; with_reducible exact H2_) | with_reducible exact H | (rw [hy279]; exact H) | exact H
                           have Ny279 := Aside0.mk hy279
                           clear hy279
                           by_cases c68 : y276.length + y279.length < 3518437208883
                           ·rw [if_pos c68] at H
                            have LMc68 := Aside0.mk c68
                            clear c68
                            obtain ⟨y283, hy283⟩ : ∃ y_ : List (S46), y_ = (y276 ++ y279) := ⟨_, rfl⟩
                            replace H : ((stickfulref11_Same.f kj57 x14_6 y283).bind fun t286 => (if t286 = true then ((stickfullaw15_head.f kj57).bind fun t287 => (some t287)) else (some false))) = some r := by first | (rw [hy283]; with_reducible exact H) | (have H2_ := (Option.bind_some _ _).symm.trans H; rw [hy283]; with_reducible exact H2_) | (have H2_ := (Option.bind_some _ _).symm.trans H; with_reducible exact H2_) | with_reducible exact H | (rw [hy283]; exact H) | exact H
                            have Ny283 := Aside0.mk hy283
                            clear hy283
                            replace H := Option.bind_eq_some_iff.mp H
                            obtain ⟨t286, A690, H⟩ := H
                            replace H : (if t286 = true then ((stickfullaw15_head.f kj57).bind fun t287 => (some t287)) else (some false)) = some r := H
                            have A69 := Aside0.mk A690
                            clear A690
                            by_cases c70 : t286 = true
                            ·subst c70
                             have H1 : ((stickfullaw15_head.f kj57).bind fun t287 => (some t287)) = some r := by rw [if_pos rfl] at H; exact H
                             clear H
                             have H := H1
                             clear H1
                             replace H := Option.bind_eq_some_iff.mp H
                             obtain ⟨t287, A710, H⟩ := H
                             replace H : (some t287) = some r := H
                             have A71 := Aside0.mk A710
                             clear A710
                             obtain rfl := Option.some.inj H
                             try go_wp2
                             replace HO_14 := Aside0.mk (Kd.R_drew HO_14.out)
                             replace BK241 := Aside0.mk (blk_drew BK241.out)
                             replace HB := Aside0.mk (below_drew1 HB.out)
                             have q73 : (((rd_T43 t255 0).f1) : Int) ≤ ((l0_0.length : Int) : Int) := of_decide_eq_true (by first | (with_reducible assumption) | assumption)
                             obtain ⟨i073, hi073, _, hsz73, _⟩ := info_parts info46
                             have hroom73 : l0_0.length ≤ c0_0 := HC0_0.out
                             have hC73 : Kd.C k46 _ A0_0 l0_0.length l0_0 := HR0_0.out
                             have hcut73 := cut_to (P := Try.prog) 22 46 .i64 Try.underlying22 hi073 A0_0 l0_0.length c0_0 ((rd_T43 t255 0).f1) (of_decide_eq_true (by first | (with_reducible assumption) | assumption)) q73 hroom73
                             have hr73 := Kd.C_take (m := (((rd_T43 t255 0).f1) : Int).toNat) hC73 (by omega)
                             have hy73 : y272.length = (((rd_T43 t255 0).f1) : Int).toNat := (by rw [Ny272.out, List.length_take]; omega)
                             rw [← Ny272.out] at hr73
                             rw [← hy73] at hcut73
                             have HR275 := Aside0.mk hr73
                             have HC275 := Aside0.mk (show y272.length ≤ c0_0 from by omega)
                             clear hr73 hC73 hroom73 hi073 hsz73
                             have KY73 := Aside0.mk hy73
                             clear hy73
                             replace q73 := eq_true q73
                             have q74 : (((rd_T43 t255 0).f1) : Int) ≤ ((l0_1.length : Int) : Int) := of_decide_eq_true (by first | (with_reducible assumption) | assumption)
                             obtain ⟨i074, hi074, _, hsz74, _⟩ := info_parts info46
                             have hroom74 : l0_1.length ≤ c0_1 := HC0_1.out
                             have hC74 : Kd.C k46 _ A0_1 l0_1.length l0_1 := HR0_1.out
                             have q074 : (0 : Int) ≤ (((rd_T43 t255 0).f1) : Int) := of_decide_eq_true (by first | (with_reducible assumption) | assumption)
                             have hcut74 := cut_from (P := Try.prog) 22 46 .i64 Try.underlying22 hi074 6 hsz74 A0_1 l0_1.length c0_1 ((rd_T43 t255 0).f1) q074 q74
                             have hr74 := Kd.C_drop (m := (((rd_T43 t255 0).f1) : Int).toNat) (c := c0_1) hC74 (by omega) hroom74
                             obtain ⟨A74, hA74⟩ : ∃ Aq_, Aq_ = (if c0_1 = (((rd_T43 t255 0).f1) : Int).toNat then A0_1 else (A0_1 : Option Addr).map (·.add ((((rd_T43 t255 0).f1) : Int).toNat * 6))) := ⟨_, rfl⟩
                             obtain ⟨c74, hc74⟩ : ∃ cq_, cq_ = c0_1 - (((rd_T43 t255 0).f1) : Int).toNat := ⟨_, rfl⟩
                             have hy74 : y279.length = l0_1.length - (((rd_T43 t255 0).f1) : Int).toNat := (by rw [Ny279.out, List.length_drop] <;> omega)
                             rw [show (l0_1).drop (((rd_T43 t255 0).f1) : Int).toNat = y279 from Ny279.out.symm] at hr74
                             replace hr74 : Kd.C k46 _ A74 y279.length y279 := (by rw [hA74]; exact hr74)
                             rw [← hy74, ← hA74, ← hc74] at hcut74
                             have HR282 := Aside0.mk hr74
                             have HC282 := Aside0.mk (show y279.length ≤ c74 from by rw [hy74, hc74]; exact Nat.sub_le_sub_right hroom74 _)
                             clear hr74 hC74 hroom74 hi074 hsz74 hc74
                             have KY74 := Aside0.mk hy74
                             have KA74 := Aside0.mk hA74
                             clear hy74 hA74
                             replace q74 := eq_true q74
                             refine start_ (n := 17) (S := fun w' => w'.cell? ⟨gb241, 0, none⟩ = some (.slice A0_0 l0_0.length c0_0) ∧ w'.cell? ⟨gb241, 1, none⟩ = some (.slice A0_1 l0_1.length c0_1) ∧ w'.cell? ⟨gb241, 2, none⟩ = some (.int .i64 a0_2) ∧ w'.cell? ⟨gb241, 3, none⟩ = some (.int .i64 a0_3) ∧ w'.cell? ⟨gb241, 4, none⟩ = some (.int .i64 a0_4) ∧ w'.cell? ⟨gb241, 5, none⟩ = some (.int .i64 a0_5)) (ds := []) (stickfullaw15_FirstCells.bm 17 0) (by kernel_rfl) rfl rfl ⟨bc BK241 0, bc BK241 1, bc BK241 2, bc BK241 3, bc BK241 4, bc BK241 5⟩ (fun hHeld => ?_); refine with_tabW stickfullaw15_FirstCells.tab26 stickfullaw15_FirstCells.bits26 (fun HT_ HW_ => ?_)
                             generalize wc.drew = w72 at HO_14 BK241 HB HR275 HR282 hHeld ⊢
                             refine pure_ (i := 0) (N := some 136) (v := ?_) (a' := ?_) (stickfullaw15_FirstCells.bm 17 1) rfl rfl (any_of HT_.out (by kernel_rfl)) (fun _ _ _ h => h) (Or.inl ⟨by rfl, ?_⟩) ?_ ?_
                             rotate_left; (focus intro w'; go_simp; with_reducible rfl); rotate_left; (focus simp only [Act.put, List.setIfInBounds_toArray, List.set_cons_zero, List.set_cons_succ, i64_w, i32_w]; rfl)
                             refine pure_ (i := 2) (N := some 138) (v := ?_) (a' := ?_) (stickfullaw15_FirstCells.bm 17 5) rfl rfl (any_of HT_.out (by kernel_rfl)) (fun _ _ _ h => h) (Or.inl ⟨by rfl, ?_⟩) ?_ ?_
                             rotate_left; (focus intro w'; go_simp; with_reducible rfl); rotate_left; (focus simp only [Act.put, List.setIfInBounds_toArray, List.set_cons_zero, List.set_cons_succ, i64_w, i32_w]; rfl)
                             refine pure_ (i := 4) (N := some 140) (v := ?_) (a' := ?_) (stickfullaw15_FirstCells.bm 17 21) rfl rfl (any_of HT_.out (by kernel_rfl)) (fun _ _ _ h => h) (Or.inl ⟨by rfl, ?_⟩) ?_ ?_
                             rotate_left; (focus intro w'; go_simp; with_reducible rfl); rotate_left; (focus simp only [Act.put, List.setIfInBounds_toArray, List.set_cons_zero, List.set_cons_succ, i64_w, i32_w]; rfl)
                             refine pure_ (i := 7) (N := some 143) (v := ?_) (a' := ?_) (stickfullaw15_FirstCells.bm 17 149) rfl rfl (any_of HT_.out (by kernel_rfl)) (fun _ _ _ h => h) (Or.inl ⟨by rfl, ?_⟩) ?_ ?_
                             rotate_left; (focus intro w'; go_simp; with_reducible rfl); rotate_left; (focus simp only [Act.put, List.setIfInBounds_toArray, List.set_cons_zero, List.set_cons_succ, i64_w, i32_w]; rfl)
                             refine pure_ (i := 9) (N := some 145) (v := ?_) (a' := ?_) (stickfullaw15_FirstCells.bm 17 661) rfl rfl (any_of HT_.out (by kernel_rfl)) (fun _ _ _ h => h) (Or.inl ⟨by rfl, ?_⟩) ?_ ?_
                             rotate_left; (focus intro w'; go_simp; with_reducible rfl); rotate_left; (focus simp only [Act.put, List.setIfInBounds_toArray, List.set_cons_zero, List.set_cons_succ, i64_w, i32_w]; rfl)
                             refine take_ (i := 3) (N := some 139) (v := ?_) (a' := ?_) (stickfullaw15_FirstCells.bm 17 669) rfl rfl (take_ofW HT_.out HW_.out (by kernel_rfl)) (fun _ _ _ h => h) (Or.inl ⟨by rfl, ?_⟩) hHeld ?_ ?_
                             rotate_left; (focus rintro w' ⟨s0, s1, s2, s3, s4, s5⟩; go_simp; with_reducible rfl); rotate_left; (focus simp only [Act.put, List.setIfInBounds_toArray, List.set_cons_zero, List.set_cons_succ, i64_w, i32_w]; rfl)
                             refine pure_ (i := 5) (N := some 141) (v := ?_) (a' := ?_) (stickfullaw15_FirstCells.bm 17 701) rfl rfl (any_of HT_.out (by kernel_rfl)) (fun _ _ _ h => h) (Or.inl ⟨by rfl, ?_⟩) ?_ ?_
                             rotate_left; (focus intro w'; go_simp; with_reducible rfl); rotate_left; (focus simp only [Act.put, List.setIfInBounds_toArray, List.set_cons_zero, List.set_cons_succ, i64_w, i32_w]; rfl)
                             refine take_ (i := 8) (N := some 144) (v := ?_) (a' := ?_) (stickfullaw15_FirstCells.bm 17 957) rfl rfl (take_ofW HT_.out HW_.out (by kernel_rfl)) (fun _ _ _ h => h) (Or.inl ⟨by rfl, ?_⟩) hHeld ?_ ?_
                             rotate_left; (focus rintro w' ⟨s0, s1, s2, s3, s4, s5⟩; go_simp; with_reducible rfl); rotate_left; (focus simp only [Act.put, List.setIfInBounds_toArray, List.set_cons_zero, List.set_cons_succ, i64_w, i32_w]; rfl)
                             refine pure_ (i := 10) (N := some 146) (v := ?_) (a' := ?_) (stickfullaw15_FirstCells.bm 17 1981) rfl rfl (any_of HT_.out (by kernel_rfl)) (fun _ _ _ h => h) (Or.inl ⟨by rfl, ?_⟩) ?_ ?_
                             rotate_left; (focus intro w'; go_simp; with_reducible rfl); rotate_left; (focus simp only [Act.put, List.setIfInBounds_toArray, List.set_cons_zero, List.set_cons_succ, i64_w, i32_w]; rfl)
                             refine one_ (i := 1) (N := some 137) (stickfullaw15_FirstCells.bm 17 1983) rfl rfl (one_of HT_.out (by kernel_rfl)) (by decide) (fun K hK => ?_)
                             refine Kd.R_lit_step k46 _ 46 ?hg (N := 137) ?hd (xs := ([] : List (S46))) (inner := []) (ok := fun _ => True) (okp := fun _ => True) ?hr ?hp (fun _ hk => hk) trivial (Below.refl _ _) (Nat.le_refl _) (by simp) ?_; (case hd => rfl); (case hg => rfl); (case hr => first | (go_simp; done) | (go_simp; rfl)); (case hp => exact (Reps.none _ _))
                             intro v270 w75 ho76 hb hg_ hnew_
                             clear hg_ hnew_
                             (first | rw [← Ny269.out] at ho76 | (simp only [Int.reduceToNat] at ho76; rw [← Ny269.out] at ho76))
                             have HO271 := Aside0.mk (Kd.R_lower (Kd.R_new' ho76 (Kd.R_lt (rx HO_14))) (below_size (bw HB)))
                             replace HO_14 := Aside0.mk (Kd.R_elder' (rx HO_14) (Kd.R_base ho76) hb)
                             replace BK241 := bb BK241 hb
                             replace HB := bh HB hb
                             clear hb ho76
                             refine hK.out _ _ ⟨bc BK241 0, bc BK241 1, bc BK241 2, bc BK241 3, bc BK241 4, bc BK241 5⟩ (fun hHeld => ?_)
                             clear hK K
                             refine norm_ (a' := ?_) ?_ ?_
                             rotate_left; (focus show Act.put _ (some 137) _ = _; simp only [Act.put, List.setIfInBounds_toArray, List.set_cons_zero, List.set_cons_succ, i64_w, i32_w]; rfl)
                             refine one_ (i := 6) (N := some 142) (stickfullaw15_FirstCells.bm 17 2047) rfl rfl (one_of HT_.out (by kernel_rfl)) (by decide) (fun K hK => ?_)
                             refine Kd.R_append_rows_step k46 (w0 := w) w.heap.size (by rfl) (.tmp 137) (.tmp 141) 22 46 (.agg #[(.int .u8 0), (.int .i64 0), (.int .i64 0), (.int .i64 0), (.bool false), (.bool false)]) 40 rfl Try.underlying22 info46 rfl (by decide) (by omega) v270 y269 y272 _ _ _ (fun k_ => some k_ ≠ (u14 : Value).ownBlock) (fun _ => False) rfl rfl ?aO ?aR (fun _ _ h => h) (fun _ h => h.elim) ?aF ?aB ?aS ?aL ?_
                             (case aR => repeat (first | exact (Kd.C_below HR275.out HB.out) | (with_reducible refine Kd.C_alloc ?_ _) | (with_reducible refine Kd.C_drewN ?_ _) | (with_reducible refine Kd.C_drew ?_)))
                             (case aB => exact (bw HB))
                             (case aF => exact (fun k_ hk => Kd.fresh' (Kd.R_lt (rx HO_14)) k_ hk))
                             (case aO => exact (by (with_reducible repeat (first | apply Kd.R_alloc | apply Kd.R_drewN | apply Kd.R_drew)); exact Kd.R_mono HO271.out (fun _ hk => hk.2)))
                             (case aS => exact (below_size (bw HB)))
                             (case aL => have := LMc65.out; omega)
                             intro v277 w77 ho hb hg hat
                             rw [← Ny276.out] at ho
                             replace HO_14 := Aside0.mk (Kd.R_after (ok := (fun _ => True)) (rx HO_14) hg hat)
                             replace BK241 := Aside0.mk (blk_grown (bx BK241) hg (Kd.R_ne HO271.out BK241.out (by decide)))
                             replace HB := Aside0.mk (hb)
                             have HO278 := Aside0.mk (ho)
                             clear HO271
                             clear ho hb hg hat
                             refine hK.out _ _ ⟨bc BK241 0, bc BK241 1, bc BK241 2, bc BK241 3, bc BK241 4, bc BK241 5⟩ (fun hHeld => ?_)
                             clear hK K
                             refine norm_ (a' := ?_) ?_ ?_
                             rotate_left; (focus show Act.put _ (some 142) _ = _; simp only [Act.put, List.setIfInBounds_toArray, List.set_cons_zero, List.set_cons_succ, i64_w, i32_w]; rfl)
                             refine one_ (i := 11) (N := some 147) (stickfullaw15_FirstCells.bm 17 4095) rfl rfl (one_of HT_.out (by kernel_rfl)) (by decide) (fun K hK => ?_)
                             refine Kd.R_append_rows_step k46 (w0 := w) w.heap.size (by rfl) (.tmp 142) (.tmp 146) 22 46 (.agg #[(.int .u8 0), (.int .i64 0), (.int .i64 0), (.int .i64 0), (.bool false), (.bool false)]) 40 rfl Try.underlying22 info46 rfl (by decide) (by omega) v277 y276 y279 _ _ _ (fun k_ => some k_ ≠ (u14 : Value).ownBlock) (fun _ => False) rfl rfl ?aO ?aR (fun _ _ h => h) (fun _ h => h.elim) ?aF ?aB ?aS ?aL ?_
                             (case aR => repeat (first | exact (Kd.C_below HR282.out HB.out) | (with_reducible refine Kd.C_alloc ?_ _) | (with_reducible refine Kd.C_drewN ?_ _) | (with_reducible refine Kd.C_drew ?_)))
                             (case aB => exact (bw HB))
                             (case aF => exact (fun k_ hk => Kd.fresh' (Kd.R_lt (rx HO_14)) k_ hk))
                             (case aO => exact (rx HO278))
                             (case aS => exact (below_size (bw HB)))
                             (case aL => have := LMc68.out; omega)
                             intro v284 w78 ho hb hg hat
                             rw [← Ny283.out] at ho
                             replace HO_14 := Aside0.mk (Kd.R_after (ok := (fun _ => True)) (rx HO_14) hg hat)
                             replace BK241 := Aside0.mk (blk_grown (bx BK241) hg (Kd.R_ne HO278.out BK241.out (by decide)))
                             replace HB := Aside0.mk (hb)
                             have HO285 := Aside0.mk (ho)
                             clear HO278
                             clear ho hb hg hat
                             obtain ⟨Ao79, co79, eo79⟩ := Kd.R_slice HO_14.out
                             (first | subst eo79 | (injection eo79 with f1_ f2_ f3_; have f4_ := f1_.symm; have f5_ := f3_.symm; clear f1_ f2_ f3_; subst f4_; subst f5_))
                             obtain ⟨Ao80, co80, eo80⟩ := Kd.R_slice HO285.out
                             (first | subst eo80 | (injection eo80 with f1_ f2_ f3_; have f4_ := f1_.symm; have f5_ := f3_.symm; clear f1_ f2_ f3_; subst f4_; subst f5_))
                             refine hK.out _ _ ⟨bc BK241 0, bc BK241 1, bc BK241 2, bc BK241 3, bc BK241 4, bc BK241 5⟩ (fun hHeld => ?_)
                             clear hK K
                             refine norm_ (a' := ?_) ?_ ?_
                             rotate_left; (focus show Act.put _ (some 147) _ = _; simp only [Act.put, List.setIfInBounds_toArray, List.set_cons_zero, List.set_cons_succ, i64_w, i32_w]; rfl)
                             refine one_ (i := 12) (N := some 148) (stickfullaw15_FirstCells.bm 17 8191) rfl rfl (one_of HT_.out (by kernel_rfl)) (by decide) (fun K hK => ?_)
                             refine goes_ Try.func16 (by kernel_rfl) rfl #[.slice Ao79 x14_6.length co79, .slice Ao80 y283.length co80] (by rfl) rfl rfl (by (try simp only [List.map_toArray, List.map_cons, List.map_nil]); first | done | rfl | (simp only [List.length_drop, List.length_take]; rfl)) ?_
                             with_reducible refine (stickfulref11_Same.calls kj57 _ _ x14_6 _ _ y283 true _ ?side1 ?side2 ?side3 ?side4 A69.out).mono ?_
                             (case side1 => repeat (first | exact (Kd.R_reads' HO_14.out).2.2 | (with_reducible refine Kd.C_alloc ?_ _) | (with_reducible refine Kd.C_drewN ?_ _) | (with_reducible refine Kd.C_drew ?_)))
                             (case side2 => exact (Kd.R_reads' HO_14.out).2.1)
                             (case side3 => repeat (first | exact (Kd.R_reads' HO285.out).2.2 | (with_reducible refine Kd.C_alloc ?_ _) | (with_reducible refine Kd.C_drewN ?_ _) | (with_reducible refine Kd.C_drew ?_)))
                             (case side4 => exact (Kd.R_reads' HO285.out).2.1)
                             rintro e w' ⟨rfl, ⟨nd, rfl⟩⟩
                             refine ⟨_, rfl, ?_⟩
                             refine hK.out _ _ ⟨bc BK241 0, bc BK241 1, bc BK241 2, bc BK241 3, bc BK241 4, bc BK241 5⟩ (fun hHeld => ?_)
                             clear hK K
                             refine norm_ (a' := ?_) ?_ ?_
                             rotate_left; (focus show Act.put _ (some 148) _ = _; simp only [Act.put, List.setIfInBounds_toArray, List.set_cons_zero, List.set_cons_succ, i64_w, i32_w]; rfl)
                             refine pure_ (i := 13) (N := some 149) (v := ?_) (a' := ?_) (stickfullaw15_FirstCells.bm 17 16383) rfl rfl (any_of HT_.out (by kernel_rfl)) (fun _ _ _ h => h) (Or.inl ⟨by rfl, ?_⟩) ?_ ?_
                             rotate_left; (focus intro w'; go_simp; with_reducible rfl); rotate_left; (focus simp only [Act.put, List.setIfInBounds_toArray, List.set_cons_zero, List.set_cons_succ, i64_w, i32_w]; rfl)
                             refine one_ (i := 14) (N := some 150) (stickfullaw15_FirstCells.bm 17 32767) rfl rfl (one_of HT_.out (by kernel_rfl)) (by decide) (fun K hK => ?_)
                             refine goes_ Try.func8 (by kernel_rfl) rfl #[] (by rfl) rfl rfl (by (try simp only [List.map_toArray, List.map_cons, List.map_nil]); first | done | rfl | (simp only [List.length_drop, List.length_take]; rfl)) ?_
                             with_reducible refine (stickfullaw15_head.calls kj57  t287 _ A71.out).mono ?_
                             rintro e w81 ⟨rfl, hb⟩
                             refine ⟨_, rfl, ?_⟩
                             replace HO_14 := Aside0.mk (Kd.R_below (rx HO_14) hb)
                             replace HO285 := Aside0.mk (Kd.R_below (rx HO285) hb)
                             replace BK241 := bb BK241 hb
                             replace HB := bh HB hb
                             (try clear hb)
                             (try clear hb2)
                             (try clear hk)
                             (try clear hi)
                             refine hK.out _ _ ⟨bc BK241 0, bc BK241 1, bc BK241 2, bc BK241 3, bc BK241 4, bc BK241 5⟩ (fun hHeld => ?_)
                             clear hK K
                             refine norm_ (a' := ?_) ?_ ?_
                             rotate_left; (focus show Act.put _ (some 150) _ = _; simp only [Act.put, List.setIfInBounds_toArray, List.set_cons_zero, List.set_cons_succ, i64_w, i32_w]; rfl)
                             refine pure_ (i := 15) (N := some 151) (v := ?_) (a' := ?_) (stickfullaw15_FirstCells.bm 17 65535) rfl rfl (any_of HT_.out (by kernel_rfl)) (fun _ _ _ h => h) (Or.inl ⟨by rfl, ?_⟩) ?_ ?_
                             rotate_left; (focus intro w'; go_simp; with_reducible rfl); rotate_left; (focus simp only [Act.put, List.setIfInBounds_toArray, List.set_cons_zero, List.set_cons_succ, i64_w, i32_w]; rfl)
                             refine pure_ (i := 16) (N := some 4) (v := ?_) (a' := ?_) (stickfullaw15_FirstCells.bm 17 131071) rfl rfl (any_of HT_.out (by kernel_rfl)) (fun _ _ _ h => h) (Or.inl ⟨by rfl, ?_⟩) ?_ ?_
                             rotate_left; (focus intro w'; go_simp; with_reducible rfl); rotate_left; (focus simp only [Act.put, List.setIfInBounds_toArray, List.set_cons_zero, List.set_cons_succ, i64_w, i32_w]; rfl)
                             refine done_ (done_of HT_.out (by kernel_rfl)) ?_
                             try go_wp2
                             go_ret
                             exact ⟨by first | rfl | (simp [errW_none, errW_some] <;> rfl) | (simp [*, errW_none, errW_some] <;> rfl), by repeat (first | (with_reducible first | exact HB.out | apply below_alloc | apply pw_below_drewN | apply below_drew1 | refine below_set ?_ GE241.out) | exact HB.out)⟩
                            ·replace c70 := Bool.eq_false_iff.mpr c70
                             subst c70
                             have H1 : (some false) = some r := by rw [if_neg (show ¬ (false = true) by decide)] at H; exact H
                             clear H
                             have H := H1
                             clear H1
                             exact absurd ((Option.some.inj H).trans HR_.out) (by decide)
                           ·rw [if_neg c68] at H
                            exact absurd H (by simp)
                          ·rw [if_neg c67] at H
                           exact absurd H (by simp)
                         ·rw [if_neg c65] at H
                          exact absurd H (by simp)
                        ·rw [if_neg c64] at H
                         exact absurd H (by simp)
                       ·rw [if_neg c63] at H
                        exact absurd H (by simp)
                   ·rw [if_neg c57] at H
                    exact absurd H (by simp)

end Go.Proofs.Ytdmlnkgpjileaaa.HFirstC
