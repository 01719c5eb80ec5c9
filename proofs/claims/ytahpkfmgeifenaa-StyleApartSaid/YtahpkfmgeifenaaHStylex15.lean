-- Written by this claim's own program over the kit's print.
import Derived.Test.YtahpkfmgeifenaaHStyleb
import Derived.Test.YtahpkfmgeifenaaHStylex0
import Derived.Test.YtahpkfmgeifenaaHStylex1
import Derived.Test.YtahpkfmgeifenaaHStylex2
import Derived.Test.YtahpkfmgeifenaaHStylex7
import Derived.Test.YtahpkfmgeifenaaHStylex8
import Derived.Test.YtahpkfmgeifenaaHStylex10
namespace Go.Proofs.Ytahpkfmgeifenaa.HStyle
open Go.RowKit Go.Proofs.YtahpkfmgeifenaaW.PrintWords Go.Proofs.YtahpkfmgeifenaaW.PrintLast Go.Proofs.YtahpkfmgeifenaaW.PrintMore Go.Proofs.Ytahpkfmgeifenaa.Hand
attribute [local go_sem] max2_int min2_int max_two min_two max_three min_three max_four min_four   -- for this text's walks alone
set_option linter.unusedVariables false
set_option linter.unusedSimpArgs false

attribute [local go_sem high] eqA23 eqA26
/-! ### stickfullaw06_StyleApart: function 7 -/
def stickfullaw06_StyleApart.j0 : Nat → Int → Int → Int → Int → Bool → Int → Int → Int → Int → Int → Int → Int → Int → Int → Int → Int → Int → Int → Int → Int → Int → Int → Int → Int → Int → Int → Int → Int → Int → Int → Int → Int → Int → Int → Int → Int → Int → Int → Int → Int → Int → Int → Int → Option (Bool)
  | 0, _, _, _, _, _, _, _, _, _, _, _, _, _, _, _, _, _, _, _, _, _, _, _, _, _, _, _, _, _, _, _, _, _, _, _, _, _, _, _, _, _, _, _ => none
  | k + 1, x8, x10, x14, x18, x67, x630000, x630001, x630002, x630003, x630004, x630005, x630006, x630007, x630008, x630009, x642000, x642001, x642002, x642003, x642004, x642005, x642006, x642007, x642008, x642009, x664000, x664001, x664002, x664003, x664004, x664005, x664006, x664007, x664008, x686000, x686001, x686002, x686003, x686004, x686005, x686006, x686007, x686008 => if x67 = true then (if (x630000 == x642000 && ((x630001 == x642001 && (x630002 == x642002 && (x630003 == x642003 && (x630004 == x642004 && (x630005 == x642005 && (x630006 == x642006 && (x630007 == x642007 && (x630008 == x642008 && (x630009 == x642009))))))))))) = true then (if x8 = x10 then ((stickfullaw06_head.f k).bind fun t686 => (some t686)) else (some false)) else (some false)) else (if (x630000 == x642000 && ((x630001 == x642001 && (x630002 == x642002 && (x630003 == x642003 && (x630004 == x642004 && (x630005 == x642005 && (x630006 == x642006 && (x630007 == x642007 && (x630008 == x642008 && (x630009 == x642009))))))))))) = true then (if x8 = 0 then (if x10 = 0 then (if x14 = 0 then (if x18 = 0 then (if (x664000 == x686000 && (x664001 == x686001 && (x664002 == x686002 && (x664003 == x686003 && (x664004 == x686004 && (x664005 == x686005 && (x664006 == x686006 && (x664007 == x686007 && (x664008 == x686008))))))))) = true then ((stickfullaw06_head.f k).bind fun t687 => (some t687)) else (some false)) else (some false)) else (some false)) else (some false)) else (some false)) else (some false))
def stickfullaw06_StyleApart.f (k : Nat) (a0_0 a0_1 a0_2 a0_3 a0_4 a0_5 a0_6 a0_7 a0_8 a1_0 a1_1 a1_2 a1_3 a1_4 a1_5 a1_6 a1_7 a1_8 a1_9 a2_0 a2_1 a2_2 a2_3 a2_4 a2_5 a2_6 a2_7 a2_8 a2_9 : Int) : Option (Bool) := if (Go.bits .and .u16 a1_0 a2_0) = 0 then ((style_Merge.f a1_0 a1_1 a1_2 a1_3 a1_4 a1_5 a1_6 a1_7 a1_8 a1_9 a2_0 a2_1 a2_2 a2_3 a2_4 a2_5 a2_6 a2_7 a2_8 a2_9).bind fun bt618 => ((style_Merge.f a2_0 a2_1 a2_2 a2_3 a2_4 a2_5 a2_6 a2_7 a2_8 a2_9 a1_0 a1_1 a1_2 a1_3 a1_4 a1_5 a1_6 a1_7 a1_8 a1_9).bind fun bt630 => ((style_Resolve.f a0_0 a0_1 a0_2 a0_3 a0_4 a0_5 a0_6 a0_7 a0_8 a1_0 a1_1 a1_2 a1_3 a1_4 a1_5 a1_6 a1_7 a1_8 a1_9).bind fun bt642 => ((style_Resolve.f bt642.1 bt642.2.1 bt642.2.2.1 bt642.2.2.2.1 bt642.2.2.2.2.1 bt642.2.2.2.2.2.1 bt642.2.2.2.2.2.2.1 bt642.2.2.2.2.2.2.2.1 bt642.2.2.2.2.2.2.2.2.1 a2_0 a2_1 a2_2 a2_3 a2_4 a2_5 a2_6 a2_7 a2_8 a2_9).bind fun bt653 => ((style_Resolve.f a0_0 a0_1 a0_2 a0_3 a0_4 a0_5 a0_6 a0_7 a0_8 a2_0 a2_1 a2_2 a2_3 a2_4 a2_5 a2_6 a2_7 a2_8 a2_9).bind fun bt664 => ((style_Resolve.f bt664.1 bt664.2.1 bt664.2.2.1 bt664.2.2.2.1 bt664.2.2.2.2.1 bt664.2.2.2.2.2.1 bt664.2.2.2.2.2.2.1 bt664.2.2.2.2.2.2.2.1 bt664.2.2.2.2.2.2.2.2.1 a1_0 a1_1 a1_2 a1_3 a1_4 a1_5 a1_6 a1_7 a1_8 a1_9).bind fun bt675 => (if bt642.2.2.2.2.2.2.2.2.2 = 0 then (stickfullaw06_StyleApart.j0 k bt618.2.2.2.2.2.2.2.2.2.2 bt630.2.2.2.2.2.2.2.2.2.2 bt653.2.2.2.2.2.2.2.2.2 bt675.2.2.2.2.2.2.2.2.2 (bt664.2.2.2.2.2.2.2.2.2 != 0) bt618.1 bt618.2.1 bt618.2.2.1 bt618.2.2.2.1 bt618.2.2.2.2.1 bt618.2.2.2.2.2.1 bt618.2.2.2.2.2.2.1 bt618.2.2.2.2.2.2.2.1 bt618.2.2.2.2.2.2.2.2.1 bt618.2.2.2.2.2.2.2.2.2.1 bt630.1 bt630.2.1 bt630.2.2.1 bt630.2.2.2.1 bt630.2.2.2.2.1 bt630.2.2.2.2.2.1 bt630.2.2.2.2.2.2.1 bt630.2.2.2.2.2.2.2.1 bt630.2.2.2.2.2.2.2.2.1 bt630.2.2.2.2.2.2.2.2.2.1 bt653.1 bt653.2.1 bt653.2.2.1 bt653.2.2.2.1 bt653.2.2.2.2.1 bt653.2.2.2.2.2.1 bt653.2.2.2.2.2.2.1 bt653.2.2.2.2.2.2.2.1 bt653.2.2.2.2.2.2.2.2.1 bt675.1 bt675.2.1 bt675.2.2.1 bt675.2.2.2.1 bt675.2.2.2.2.1 bt675.2.2.2.2.2.1 bt675.2.2.2.2.2.2.1 bt675.2.2.2.2.2.2.2.1 bt675.2.2.2.2.2.2.2.2.1) else (stickfullaw06_StyleApart.j0 k bt618.2.2.2.2.2.2.2.2.2.2 bt630.2.2.2.2.2.2.2.2.2.2 bt653.2.2.2.2.2.2.2.2.2 bt675.2.2.2.2.2.2.2.2.2 true bt618.1 bt618.2.1 bt618.2.2.1 bt618.2.2.2.1 bt618.2.2.2.2.1 bt618.2.2.2.2.2.1 bt618.2.2.2.2.2.2.1 bt618.2.2.2.2.2.2.2.1 bt618.2.2.2.2.2.2.2.2.1 bt618.2.2.2.2.2.2.2.2.2.1 bt630.1 bt630.2.1 bt630.2.2.1 bt630.2.2.2.1 bt630.2.2.2.2.1 bt630.2.2.2.2.2.1 bt630.2.2.2.2.2.2.1 bt630.2.2.2.2.2.2.2.1 bt630.2.2.2.2.2.2.2.2.1 bt630.2.2.2.2.2.2.2.2.2.1 bt653.1 bt653.2.1 bt653.2.2.1 bt653.2.2.2.1 bt653.2.2.2.2.1 bt653.2.2.2.2.2.1 bt653.2.2.2.2.2.2.1 bt653.2.2.2.2.2.2.2.1 bt653.2.2.2.2.2.2.2.2.1 bt675.1 bt675.2.1 bt675.2.2.1 bt675.2.2.2.1 bt675.2.2.2.2.1 bt675.2.2.2.2.2.1 bt675.2.2.2.2.2.2.1 bt675.2.2.2.2.2.2.2.1 bt675.2.2.2.2.2.2.2.2.1)))))))) else ((stickfullaw06_head.f k).bind fun t617 => (some t617))
theorem stickfullaw06_StyleApart.mono_l : ∀ k, (∀ y0 y1 y2 y3 y4 y5 y6 y7 y8 y9 y10 y11 y12 y13 y14 y15 y16 y17 y18 y19 y20 y21 y22 y23 y24 y25 y26 y27 y28 y29 y30 y31 y32 y33 y34 y35 y36 y37 y38 y39 y40 y41 y42, LeO (stickfullaw06_StyleApart.j0 k y0 y1 y2 y3 y4 y5 y6 y7 y8 y9 y10 y11 y12 y13 y14 y15 y16 y17 y18 y19 y20 y21 y22 y23 y24 y25 y26 y27 y28 y29 y30 y31 y32 y33 y34 y35 y36 y37 y38 y39 y40 y41 y42) (stickfullaw06_StyleApart.j0 (k + 1) y0 y1 y2 y3 y4 y5 y6 y7 y8 y9 y10 y11 y12 y13 y14 y15 y16 y17 y18 y19 y20 y21 y22 y23 y24 y25 y26 y27 y28 y29 y30 y31 y32 y33 y34 y35 y36 y37 y38 y39 y40 y41 y42))
  | 0 => fun _ _ _ _ _ _ _ _ _ _ _ _ _ _ _ _ _ _ _ _ _ _ _ _ _ _ _ _ _ _ _ _ _ _ _ _ _ _ _ _ _ _ _ r h => by simp [stickfullaw06_StyleApart.j0] at h
  | k + 1 => by
    have ih0 := stickfullaw06_StyleApart.mono_l k
    · intro y0 y1 y2 y3 y4 y5 y6 y7 y8 y9 y10 y11 y12 y13 y14 y15 y16 y17 y18 y19 y20 y21 y22 y23 y24 y25 y26 y27 y28 y29 y30 y31 y32 y33 y34 y35 y36 y37 y38 y39 y40 y41 y42
      unfold stickfullaw06_StyleApart.j0
      repeat' first
      | (with_reducible exact ih0 _ _ _ _ _ _ _ _ _ _ _ _ _ _ _ _ _ _ _ _ _ _ _ _ _ _ _ _ _ _ _ _ _ _ _ _ _ _ _ _ _ _ _)
      | (with_reducible exact stickfullaw06_head.mono _)
      | (with_reducible exact LeO.refl _)
      | (with_reducible exact LeO.none _)
      | (with_reducible refine LeO.ite ?_ ?_)
      | (with_reducible refine LeO.bind ?_ (fun _ => ?_))
      | exact ih0 _ _ _ _ _ _ _ _ _ _ _ _ _ _ _ _ _ _ _ _ _ _ _ _ _ _ _ _ _ _ _ _ _ _ _ _ _ _ _ _ _ _ _
      | exact stickfullaw06_head.mono _
      | exact LeO.none _
      | refine LeO.ite ?_ ?_
      | refine LeO.bind ?_ (fun _ => ?_)
theorem stickfullaw06_StyleApart.mono : ∀ a0 a1 a2 a3 a4 a5 a6 a7 a8 a9 a10 a11 a12 a13 a14 a15 a16 a17 a18 a19 a20 a21 a22 a23 a24 a25 a26 a27 a28 k, LeO (stickfullaw06_StyleApart.f k a0 a1 a2 a3 a4 a5 a6 a7 a8 a9 a10 a11 a12 a13 a14 a15 a16 a17 a18 a19 a20 a21 a22 a23 a24 a25 a26 a27 a28) (stickfullaw06_StyleApart.f (k + 1) a0 a1 a2 a3 a4 a5 a6 a7 a8 a9 a10 a11 a12 a13 a14 a15 a16 a17 a18 a19 a20 a21 a22 a23 a24 a25 a26 a27 a28) := by
  intro a0 a1 a2 a3 a4 a5 a6 a7 a8 a9 a10 a11 a12 a13 a14 a15 a16 a17 a18 a19 a20 a21 a22 a23 a24 a25 a26 a27 a28 k
  have ih0 := stickfullaw06_StyleApart.mono_l k
  unfold stickfullaw06_StyleApart.f
  repeat' first
      | (with_reducible exact ih0 _ _ _ _ _ _ _ _ _ _ _ _ _ _ _ _ _ _ _ _ _ _ _ _ _ _ _ _ _ _ _ _ _ _ _ _ _ _ _ _ _ _ _)
      | (with_reducible exact stickfullaw06_head.mono _)
      | (with_reducible exact LeO.refl _)
      | (with_reducible exact LeO.none _)
      | (with_reducible refine LeO.ite ?_ ?_)
      | (with_reducible refine LeO.bind ?_ (fun _ => ?_))
      | exact ih0 _ _ _ _ _ _ _ _ _ _ _ _ _ _ _ _ _ _ _ _ _ _ _ _ _ _ _ _ _ _ _ _ _ _ _ _ _ _ _ _ _ _ _
      | exact stickfullaw06_head.mono _
      | exact LeO.none _
      | refine LeO.ite ?_ ?_
      | refine LeO.bind ?_ (fun _ => ?_)
set_option maxHeartbeats 8000000 in
set_option maxRecDepth 100000 in
theorem stickfullaw06_StyleApart.calls_t (k : Nat) (a0_0 a0_1 a0_2 a0_3 a0_4 a0_5 a0_6 a0_7 a0_8 a1_0 a1_1 a1_2 a1_3 a1_4 a1_5 a1_6 a1_7 a1_8 a1_9 a2_0 a2_1 a2_2 a2_3 a2_4 a2_5 a2_6 a2_7 a2_8 a2_9 : Int) (r : Bool) (w : World) (h : stickfullaw06_StyleApart.f k a0_0 a0_1 a0_2 a0_3 a0_4 a0_5 a0_6 a0_7 a0_8 a1_0 a1_1 a1_2 a1_3 a1_4 a1_5 a1_6 a1_7 a1_8 a1_9 a2_0 a2_1 a2_2 a2_3 a2_4 a2_5 a2_6 a2_7 a2_8 a2_9 = some r) (hr_ : r = true) :
    Calls Try.prog 7 #[.agg #[.int .u8 a0_0, .int .u8 a0_1, .int .u8 a0_2, .int .u8 a0_3, .int .i64 a0_4, .int .i64 a0_5, .int .i64 a0_6, .int .u8 a0_7, .int .i64 a0_8], .agg #[.int .u16 a1_0, .int .u8 a1_1, .int .u8 a1_2, .int .u8 a1_3, .int .u8 a1_4, .int .i64 a1_5, .int .i64 a1_6, .int .i64 a1_7, .int .u8 a1_8, .int .i64 a1_9], .agg #[.int .u16 a2_0, .int .u8 a2_1, .int .u8 a2_2, .int .u8 a2_3, .int .u8 a2_4, .int .i64 a2_5, .int .i64 a2_6, .int .i64 a2_7, .int .u8 a2_8, .int .i64 a2_9]] w fun e w' => e = .returned (.bool r) ∧ Below w.heap.size w w' := by
  have hu23 := Try.underlying23
  have hu26 := Try.underlying26
  have HR_ := Aside0.mk hr_
  clear hr_
  have HB := Aside0.mk (Below.refl w.heap.size w)
  have H : (if (Go.bits .and .u16 a1_0 a2_0) = 0 then ((style_Merge.f a1_0 a1_1 a1_2 a1_3 a1_4 a1_5 a1_6 a1_7 a1_8 a1_9 a2_0 a2_1 a2_2 a2_3 a2_4 a2_5 a2_6 a2_7 a2_8 a2_9).bind fun bt618 => ((style_Merge.f a2_0 a2_1 a2_2 a2_3 a2_4 a2_5 a2_6 a2_7 a2_8 a2_9 a1_0 a1_1 a1_2 a1_3 a1_4 a1_5 a1_6 a1_7 a1_8 a1_9).bind fun bt630 => ((style_Resolve.f a0_0 a0_1 a0_2 a0_3 a0_4 a0_5 a0_6 a0_7 a0_8 a1_0 a1_1 a1_2 a1_3 a1_4 a1_5 a1_6 a1_7 a1_8 a1_9).bind fun bt642 => ((style_Resolve.f bt642.1 bt642.2.1 bt642.2.2.1 bt642.2.2.2.1 bt642.2.2.2.2.1 bt642.2.2.2.2.2.1 bt642.2.2.2.2.2.2.1 bt642.2.2.2.2.2.2.2.1 bt642.2.2.2.2.2.2.2.2.1 a2_0 a2_1 a2_2 a2_3 a2_4 a2_5 a2_6 a2_7 a2_8 a2_9).bind fun bt653 => ((style_Resolve.f a0_0 a0_1 a0_2 a0_3 a0_4 a0_5 a0_6 a0_7 a0_8 a2_0 a2_1 a2_2 a2_3 a2_4 a2_5 a2_6 a2_7 a2_8 a2_9).bind fun bt664 => ((style_Resolve.f bt664.1 bt664.2.1 bt664.2.2.1 bt664.2.2.2.1 bt664.2.2.2.2.1 bt664.2.2.2.2.2.1 bt664.2.2.2.2.2.2.1 bt664.2.2.2.2.2.2.2.1 bt664.2.2.2.2.2.2.2.2.1 a1_0 a1_1 a1_2 a1_3 a1_4 a1_5 a1_6 a1_7 a1_8 a1_9).bind fun bt675 => (if bt642.2.2.2.2.2.2.2.2.2 = 0 then (stickfullaw06_StyleApart.j0 k bt618.2.2.2.2.2.2.2.2.2.2 bt630.2.2.2.2.2.2.2.2.2.2 bt653.2.2.2.2.2.2.2.2.2 bt675.2.2.2.2.2.2.2.2.2 (bt664.2.2.2.2.2.2.2.2.2 != 0) bt618.1 bt618.2.1 bt618.2.2.1 bt618.2.2.2.1 bt618.2.2.2.2.1 bt618.2.2.2.2.2.1 bt618.2.2.2.2.2.2.1 bt618.2.2.2.2.2.2.2.1 bt618.2.2.2.2.2.2.2.2.1 bt618.2.2.2.2.2.2.2.2.2.1 bt630.1 bt630.2.1 bt630.2.2.1 bt630.2.2.2.1 bt630.2.2.2.2.1 bt630.2.2.2.2.2.1 bt630.2.2.2.2.2.2.1 bt630.2.2.2.2.2.2.2.1 bt630.2.2.2.2.2.2.2.2.1 bt630.2.2.2.2.2.2.2.2.2.1 bt653.1 bt653.2.1 bt653.2.2.1 bt653.2.2.2.1 bt653.2.2.2.2.1 bt653.2.2.2.2.2.1 bt653.2.2.2.2.2.2.1 bt653.2.2.2.2.2.2.2.1 bt653.2.2.2.2.2.2.2.2.1 bt675.1 bt675.2.1 bt675.2.2.1 bt675.2.2.2.1 bt675.2.2.2.2.1 bt675.2.2.2.2.2.1 bt675.2.2.2.2.2.2.1 bt675.2.2.2.2.2.2.2.1 bt675.2.2.2.2.2.2.2.2.1) else (stickfullaw06_StyleApart.j0 k bt618.2.2.2.2.2.2.2.2.2.2 bt630.2.2.2.2.2.2.2.2.2.2 bt653.2.2.2.2.2.2.2.2.2 bt675.2.2.2.2.2.2.2.2.2 true bt618.1 bt618.2.1 bt618.2.2.1 bt618.2.2.2.1 bt618.2.2.2.2.1 bt618.2.2.2.2.2.1 bt618.2.2.2.2.2.2.1 bt618.2.2.2.2.2.2.2.1 bt618.2.2.2.2.2.2.2.2.1 bt618.2.2.2.2.2.2.2.2.2.1 bt630.1 bt630.2.1 bt630.2.2.1 bt630.2.2.2.1 bt630.2.2.2.2.1 bt630.2.2.2.2.2.1 bt630.2.2.2.2.2.2.1 bt630.2.2.2.2.2.2.2.1 bt630.2.2.2.2.2.2.2.2.1 bt630.2.2.2.2.2.2.2.2.2.1 bt653.1 bt653.2.1 bt653.2.2.1 bt653.2.2.2.1 bt653.2.2.2.2.1 bt653.2.2.2.2.2.1 bt653.2.2.2.2.2.2.1 bt653.2.2.2.2.2.2.2.1 bt653.2.2.2.2.2.2.2.2.1 bt675.1 bt675.2.1 bt675.2.2.1 bt675.2.2.2.1 bt675.2.2.2.2.1 bt675.2.2.2.2.2.1 bt675.2.2.2.2.2.2.1 bt675.2.2.2.2.2.2.2.1 bt675.2.2.2.2.2.2.2.2.1)))))))) else ((stickfullaw06_head.f k).bind fun t617 => (some t617))) = some r := h
  clear h
  by_cases c4 : (Go.bits .and .u16 a1_0 a2_0) = 0
  · rw [if_pos c4] at H
    have c4b0 : ((Go.bits .and .u16 a1_0 a2_0) == 0) = true := beq_iff_eq.mpr c4
    have c4b1 : ((Go.bits .and .u16 a1_0 a2_0) != 0) = false := bne_eq_false_iff_eq.mpr c4
    clear c4
    replace H := Option.bind_eq_some_iff.mp H
    obtain ⟨⟨t618, t619, t620, t621, t622, t623, t624, t625, t626, t627, t628⟩, A50, H⟩ := H
    replace H : ((style_Merge.f a2_0 a2_1 a2_2 a2_3 a2_4 a2_5 a2_6 a2_7 a2_8 a2_9 a1_0 a1_1 a1_2 a1_3 a1_4 a1_5 a1_6 a1_7 a1_8 a1_9).bind fun bt630 => ((style_Resolve.f a0_0 a0_1 a0_2 a0_3 a0_4 a0_5 a0_6 a0_7 a0_8 a1_0 a1_1 a1_2 a1_3 a1_4 a1_5 a1_6 a1_7 a1_8 a1_9).bind fun bt642 => ((style_Resolve.f bt642.1 bt642.2.1 bt642.2.2.1 bt642.2.2.2.1 bt642.2.2.2.2.1 bt642.2.2.2.2.2.1 bt642.2.2.2.2.2.2.1 bt642.2.2.2.2.2.2.2.1 bt642.2.2.2.2.2.2.2.2.1 a2_0 a2_1 a2_2 a2_3 a2_4 a2_5 a2_6 a2_7 a2_8 a2_9).bind fun bt653 => ((style_Resolve.f a0_0 a0_1 a0_2 a0_3 a0_4 a0_5 a0_6 a0_7 a0_8 a2_0 a2_1 a2_2 a2_3 a2_4 a2_5 a2_6 a2_7 a2_8 a2_9).bind fun bt664 => ((style_Resolve.f bt664.1 bt664.2.1 bt664.2.2.1 bt664.2.2.2.1 bt664.2.2.2.2.1 bt664.2.2.2.2.2.1 bt664.2.2.2.2.2.2.1 bt664.2.2.2.2.2.2.2.1 bt664.2.2.2.2.2.2.2.2.1 a1_0 a1_1 a1_2 a1_3 a1_4 a1_5 a1_6 a1_7 a1_8 a1_9).bind fun bt675 => (if bt642.2.2.2.2.2.2.2.2.2 = 0 then (stickfullaw06_StyleApart.j0 k t628 bt630.2.2.2.2.2.2.2.2.2.2 bt653.2.2.2.2.2.2.2.2.2 bt675.2.2.2.2.2.2.2.2.2 (bt664.2.2.2.2.2.2.2.2.2 != 0) t618 t619 t620 t621 t622 t623 t624 t625 t626 t627 bt630.1 bt630.2.1 bt630.2.2.1 bt630.2.2.2.1 bt630.2.2.2.2.1 bt630.2.2.2.2.2.1 bt630.2.2.2.2.2.2.1 bt630.2.2.2.2.2.2.2.1 bt630.2.2.2.2.2.2.2.2.1 bt630.2.2.2.2.2.2.2.2.2.1 bt653.1 bt653.2.1 bt653.2.2.1 bt653.2.2.2.1 bt653.2.2.2.2.1 bt653.2.2.2.2.2.1 bt653.2.2.2.2.2.2.1 bt653.2.2.2.2.2.2.2.1 bt653.2.2.2.2.2.2.2.2.1 bt675.1 bt675.2.1 bt675.2.2.1 bt675.2.2.2.1 bt675.2.2.2.2.1 bt675.2.2.2.2.2.1 bt675.2.2.2.2.2.2.1 bt675.2.2.2.2.2.2.2.1 bt675.2.2.2.2.2.2.2.2.1) else (stickfullaw06_StyleApart.j0 k t628 bt630.2.2.2.2.2.2.2.2.2.2 bt653.2.2.2.2.2.2.2.2.2 bt675.2.2.2.2.2.2.2.2.2 true t618 t619 t620 t621 t622 t623 t624 t625 t626 t627 bt630.1 bt630.2.1 bt630.2.2.1 bt630.2.2.2.1 bt630.2.2.2.2.1 bt630.2.2.2.2.2.1 bt630.2.2.2.2.2.2.1 bt630.2.2.2.2.2.2.2.1 bt630.2.2.2.2.2.2.2.2.1 bt630.2.2.2.2.2.2.2.2.2.1 bt653.1 bt653.2.1 bt653.2.2.1 bt653.2.2.2.1 bt653.2.2.2.2.1 bt653.2.2.2.2.2.1 bt653.2.2.2.2.2.2.1 bt653.2.2.2.2.2.2.2.1 bt653.2.2.2.2.2.2.2.2.1 bt675.1 bt675.2.1 bt675.2.2.1 bt675.2.2.2.1 bt675.2.2.2.2.1 bt675.2.2.2.2.2.1 bt675.2.2.2.2.2.2.1 bt675.2.2.2.2.2.2.2.1 bt675.2.2.2.2.2.2.2.2.1))))))) = some r := H
    have A5 := Aside0.mk A50
    clear A50
    replace H := Option.bind_eq_some_iff.mp H
    obtain ⟨⟨t630, t631, t632, t633, t634, t635, t636, t637, t638, t639, t640⟩, A60, H⟩ := H
    replace H : ((style_Resolve.f a0_0 a0_1 a0_2 a0_3 a0_4 a0_5 a0_6 a0_7 a0_8 a1_0 a1_1 a1_2 a1_3 a1_4 a1_5 a1_6 a1_7 a1_8 a1_9).bind fun bt642 => ((style_Resolve.f bt642.1 bt642.2.1 bt642.2.2.1 bt642.2.2.2.1 bt642.2.2.2.2.1 bt642.2.2.2.2.2.1 bt642.2.2.2.2.2.2.1 bt642.2.2.2.2.2.2.2.1 bt642.2.2.2.2.2.2.2.2.1 a2_0 a2_1 a2_2 a2_3 a2_4 a2_5 a2_6 a2_7 a2_8 a2_9).bind fun bt653 => ((style_Resolve.f a0_0 a0_1 a0_2 a0_3 a0_4 a0_5 a0_6 a0_7 a0_8 a2_0 a2_1 a2_2 a2_3 a2_4 a2_5 a2_6 a2_7 a2_8 a2_9).bind fun bt664 => ((style_Resolve.f bt664.1 bt664.2.1 bt664.2.2.1 bt664.2.2.2.1 bt664.2.2.2.2.1 bt664.2.2.2.2.2.1 bt664.2.2.2.2.2.2.1 bt664.2.2.2.2.2.2.2.1 bt664.2.2.2.2.2.2.2.2.1 a1_0 a1_1 a1_2 a1_3 a1_4 a1_5 a1_6 a1_7 a1_8 a1_9).bind fun bt675 => (if bt642.2.2.2.2.2.2.2.2.2 = 0 then (stickfullaw06_StyleApart.j0 k t628 t640 bt653.2.2.2.2.2.2.2.2.2 bt675.2.2.2.2.2.2.2.2.2 (bt664.2.2.2.2.2.2.2.2.2 != 0) t618 t619 t620 t621 t622 t623 t624 t625 t626 t627 t630 t631 t632 t633 t634 t635 t636 t637 t638 t639 bt653.1 bt653.2.1 bt653.2.2.1 bt653.2.2.2.1 bt653.2.2.2.2.1 bt653.2.2.2.2.2.1 bt653.2.2.2.2.2.2.1 bt653.2.2.2.2.2.2.2.1 bt653.2.2.2.2.2.2.2.2.1 bt675.1 bt675.2.1 bt675.2.2.1 bt675.2.2.2.1 bt675.2.2.2.2.1 bt675.2.2.2.2.2.1 bt675.2.2.2.2.2.2.1 bt675.2.2.2.2.2.2.2.1 bt675.2.2.2.2.2.2.2.2.1) else (stickfullaw06_StyleApart.j0 k t628 t640 bt653.2.2.2.2.2.2.2.2.2 bt675.2.2.2.2.2.2.2.2.2 true t618 t619 t620 t621 t622 t623 t624 t625 t626 t627 t630 t631 t632 t633 t634 t635 t636 t637 t638 t639 bt653.1 bt653.2.1 bt653.2.2.1 bt653.2.2.2.1 bt653.2.2.2.2.1 bt653.2.2.2.2.2.1 bt653.2.2.2.2.2.2.1 bt653.2.2.2.2.2.2.2.1 bt653.2.2.2.2.2.2.2.2.1 bt675.1 bt675.2.1 bt675.2.2.1 bt675.2.2.2.1 bt675.2.2.2.2.1 bt675.2.2.2.2.2.1 bt675.2.2.2.2.2.2.1 bt675.2.2.2.2.2.2.2.1 bt675.2.2.2.2.2.2.2.2.1)))))) = some r := H
    have A6 := Aside0.mk A60
    clear A60
    replace H := Option.bind_eq_some_iff.mp H
    obtain ⟨⟨t642, t643, t644, t645, t646, t647, t648, t649, t650, t651⟩, A70, H⟩ := H
    replace H : ((style_Resolve.f t642 t643 t644 t645 t646 t647 t648 t649 t650 a2_0 a2_1 a2_2 a2_3 a2_4 a2_5 a2_6 a2_7 a2_8 a2_9).bind fun bt653 => ((style_Resolve.f a0_0 a0_1 a0_2 a0_3 a0_4 a0_5 a0_6 a0_7 a0_8 a2_0 a2_1 a2_2 a2_3 a2_4 a2_5 a2_6 a2_7 a2_8 a2_9).bind fun bt664 => ((style_Resolve.f bt664.1 bt664.2.1 bt664.2.2.1 bt664.2.2.2.1 bt664.2.2.2.2.1 bt664.2.2.2.2.2.1 bt664.2.2.2.2.2.2.1 bt664.2.2.2.2.2.2.2.1 bt664.2.2.2.2.2.2.2.2.1 a1_0 a1_1 a1_2 a1_3 a1_4 a1_5 a1_6 a1_7 a1_8 a1_9).bind fun bt675 => (if t651 = 0 then (stickfullaw06_StyleApart.j0 k t628 t640 bt653.2.2.2.2.2.2.2.2.2 bt675.2.2.2.2.2.2.2.2.2 (bt664.2.2.2.2.2.2.2.2.2 != 0) t618 t619 t620 t621 t622 t623 t624 t625 t626 t627 t630 t631 t632 t633 t634 t635 t636 t637 t638 t639 bt653.1 bt653.2.1 bt653.2.2.1 bt653.2.2.2.1 bt653.2.2.2.2.1 bt653.2.2.2.2.2.1 bt653.2.2.2.2.2.2.1 bt653.2.2.2.2.2.2.2.1 bt653.2.2.2.2.2.2.2.2.1 bt675.1 bt675.2.1 bt675.2.2.1 bt675.2.2.2.1 bt675.2.2.2.2.1 bt675.2.2.2.2.2.1 bt675.2.2.2.2.2.2.1 bt675.2.2.2.2.2.2.2.1 bt675.2.2.2.2.2.2.2.2.1) else (stickfullaw06_StyleApart.j0 k t628 t640 bt653.2.2.2.2.2.2.2.2.2 bt675.2.2.2.2.2.2.2.2.2 true t618 t619 t620 t621 t622 t623 t624 t625 t626 t627 t630 t631 t632 t633 t634 t635 t636 t637 t638 t639 bt653.1 bt653.2.1 bt653.2.2.1 bt653.2.2.2.1 bt653.2.2.2.2.1 bt653.2.2.2.2.2.1 bt653.2.2.2.2.2.2.1 bt653.2.2.2.2.2.2.2.1 bt653.2.2.2.2.2.2.2.2.1 bt675.1 bt675.2.1 bt675.2.2.1 bt675.2.2.2.1 bt675.2.2.2.2.1 bt675.2.2.2.2.2.1 bt675.2.2.2.2.2.2.1 bt675.2.2.2.2.2.2.2.1 bt675.2.2.2.2.2.2.2.2.1))))) = some r := H
    have A7 := Aside0.mk A70
    clear A70
    replace H := Option.bind_eq_some_iff.mp H
    obtain ⟨⟨t653, t654, t655, t656, t657, t658, t659, t660, t661, t662⟩, A80, H⟩ := H
    replace H : ((style_Resolve.f a0_0 a0_1 a0_2 a0_3 a0_4 a0_5 a0_6 a0_7 a0_8 a2_0 a2_1 a2_2 a2_3 a2_4 a2_5 a2_6 a2_7 a2_8 a2_9).bind fun bt664 => ((style_Resolve.f bt664.1 bt664.2.1 bt664.2.2.1 bt664.2.2.2.1 bt664.2.2.2.2.1 bt664.2.2.2.2.2.1 bt664.2.2.2.2.2.2.1 bt664.2.2.2.2.2.2.2.1 bt664.2.2.2.2.2.2.2.2.1 a1_0 a1_1 a1_2 a1_3 a1_4 a1_5 a1_6 a1_7 a1_8 a1_9).bind fun bt675 => (if t651 = 0 then (stickfullaw06_StyleApart.j0 k t628 t640 t662 bt675.2.2.2.2.2.2.2.2.2 (bt664.2.2.2.2.2.2.2.2.2 != 0) t618 t619 t620 t621 t622 t623 t624 t625 t626 t627 t630 t631 t632 t633 t634 t635 t636 t637 t638 t639 t653 t654 t655 t656 t657 t658 t659 t660 t661 bt675.1 bt675.2.1 bt675.2.2.1 bt675.2.2.2.1 bt675.2.2.2.2.1 bt675.2.2.2.2.2.1 bt675.2.2.2.2.2.2.1 bt675.2.2.2.2.2.2.2.1 bt675.2.2.2.2.2.2.2.2.1) else (stickfullaw06_StyleApart.j0 k t628 t640 t662 bt675.2.2.2.2.2.2.2.2.2 true t618 t619 t620 t621 t622 t623 t624 t625 t626 t627 t630 t631 t632 t633 t634 t635 t636 t637 t638 t639 t653 t654 t655 t656 t657 t658 t659 t660 t661 bt675.1 bt675.2.1 bt675.2.2.1 bt675.2.2.2.1 bt675.2.2.2.2.1 bt675.2.2.2.2.2.1 bt675.2.2.2.2.2.2.1 bt675.2.2.2.2.2.2.2.1 bt675.2.2.2.2.2.2.2.2.1)))) = some r := H
    have A8 := Aside0.mk A80
    clear A80
    replace H := Option.bind_eq_some_iff.mp H
    obtain ⟨⟨t664, t665, t666, t667, t668, t669, t670, t671, t672, t673⟩, A90, H⟩ := H
    replace H : ((style_Resolve.f t664 t665 t666 t667 t668 t669 t670 t671 t672 a1_0 a1_1 a1_2 a1_3 a1_4 a1_5 a1_6 a1_7 a1_8 a1_9).bind fun bt675 => (if t651 = 0 then (stickfullaw06_StyleApart.j0 k t628 t640 t662 bt675.2.2.2.2.2.2.2.2.2 (t673 != 0) t618 t619 t620 t621 t622 t623 t624 t625 t626 t627 t630 t631 t632 t633 t634 t635 t636 t637 t638 t639 t653 t654 t655 t656 t657 t658 t659 t660 t661 bt675.1 bt675.2.1 bt675.2.2.1 bt675.2.2.2.1 bt675.2.2.2.2.1 bt675.2.2.2.2.2.1 bt675.2.2.2.2.2.2.1 bt675.2.2.2.2.2.2.2.1 bt675.2.2.2.2.2.2.2.2.1) else (stickfullaw06_StyleApart.j0 k t628 t640 t662 bt675.2.2.2.2.2.2.2.2.2 true t618 t619 t620 t621 t622 t623 t624 t625 t626 t627 t630 t631 t632 t633 t634 t635 t636 t637 t638 t639 t653 t654 t655 t656 t657 t658 t659 t660 t661 bt675.1 bt675.2.1 bt675.2.2.1 bt675.2.2.2.1 bt675.2.2.2.2.1 bt675.2.2.2.2.2.1 bt675.2.2.2.2.2.2.1 bt675.2.2.2.2.2.2.2.1 bt675.2.2.2.2.2.2.2.2.1))) = some r := H
    have A9 := Aside0.mk A90
    clear A90
    replace H := Option.bind_eq_some_iff.mp H
    obtain ⟨⟨t675, t676, t677, t678, t679, t680, t681, t682, t683, t684⟩, A100, H⟩ := H
    replace H : (if t651 = 0 then (stickfullaw06_StyleApart.j0 k t628 t640 t662 t684 (t673 != 0) t618 t619 t620 t621 t622 t623 t624 t625 t626 t627 t630 t631 t632 t633 t634 t635 t636 t637 t638 t639 t653 t654 t655 t656 t657 t658 t659 t660 t661 t675 t676 t677 t678 t679 t680 t681 t682 t683) else (stickfullaw06_StyleApart.j0 k t628 t640 t662 t684 true t618 t619 t620 t621 t622 t623 t624 t625 t626 t627 t630 t631 t632 t633 t634 t635 t636 t637 t638 t639 t653 t654 t655 t656 t657 t658 t659 t660 t661 t675 t676 t677 t678 t679 t680 t681 t682 t683)) = some r := H
    have A10 := Aside0.mk A100
    clear A100
    have HC11 := Aside0.mk H
    clear H
    go_enter Try.func7, Try.ntmps7
    go_upto_region 9 with (first | ((with_reducible refine gate_dst (N := 3) rfl ?_); refine box_event ?hg (N := 3) ?hd (cs := #[.int .u8 a0_0, .int .u8 a0_1, .int .u8 a0_2, .int .u8 a0_3, .int .i64 a0_4, .int .i64 a0_5, .int .i64 a0_6, .int .u8 a0_7, .int .i64 a0_8]) (t := 23) ?hr ?_; (case hd => rfl); (case hg => rfl); (case hr => first | (go_simp; done) | (go_simp; rfl)); intro gb614 hg w12 hbox hb; have BK614 := Aside0.mk (hbox); have GW614 := bge HB hg; have GE614 := bge HB hg; replace HB := bh HB hb; clear hb hbox hg) | ((with_reducible refine gate_dst (N := 4) rfl ?_); refine box_event ?hg (N := 4) ?hd (cs := #[.int .u16 a1_0, .int .u8 a1_1, .int .u8 a1_2, .int .u8 a1_3, .int .u8 a1_4, .int .i64 a1_5, .int .i64 a1_6, .int .i64 a1_7, .int .u8 a1_8, .int .i64 a1_9]) (t := 26) ?hr ?_; (case hd => rfl); (case hg => rfl); (case hr => first | (go_simp; done) | (go_simp; rfl)); intro gb615 hg w13 hbox hb; have BK615 := Aside0.mk (hbox); have GW615 := bge HB hg; have GE615 := bge HB hg; replace HB := bh HB hb; have NB614_615 := nbl BK614 hg; have NB615_614 := nbg BK614 hg; replace BK614 := bb BK614 hb; clear hb hbox hg) | ((with_reducible refine gate_dst (N := 5) rfl ?_); refine box_event ?hg (N := 5) ?hd (cs := #[.int .u16 a2_0, .int .u8 a2_1, .int .u8 a2_2, .int .u8 a2_3, .int .u8 a2_4, .int .i64 a2_5, .int .i64 a2_6, .int .i64 a2_7, .int .u8 a2_8, .int .i64 a2_9]) (t := 26) ?hr ?_; (case hd => rfl); (case hg => rfl); (case hr => first | (go_simp; done) | (go_simp; rfl)); intro gb616 hg w14 hbox hb; have BK616 := Aside0.mk (hbox); have GW616 := bge HB hg; have GE616 := bge HB hg; replace HB := bh HB hb; have NB614_616 := nbl BK614 hg; have NB616_614 := nbg BK614 hg; replace BK614 := bb BK614 hb; have NB615_616 := nbl BK615 hg; have NB616_615 := nbg BK615 hg; replace BK615 := bb BK615 hb; clear hb hbox hg; have hnb15 := NB615_614.out; have hnc15 := NB614_615.out; have hnb16 := NB615_616.out; have hnc16 := NB616_615.out; obtain ⟨hcz17_0, hcz17_1, hcz17_2, hcz17_3, hcz17_4, hcz17_5, hcz17_6, hcz17_7, hcz17_8, hcz17_9⟩ := cz10 BK615; obtain ⟨hfz17_0, hfz17_1, hfz17_2, hfz17_3, hfz17_4, hfz17_5, hfz17_6, hfz17_7, hfz17_8, hfz17_9⟩ := fz10 BK615; have hnb18 := NB616_614.out; have hnc18 := NB614_616.out; obtain ⟨hcz19_0, hcz19_1, hcz19_2, hcz19_3, hcz19_4, hcz19_5, hcz19_6, hcz19_7, hcz19_8, hcz19_9⟩ := cz10 BK616; obtain ⟨hfz19_0, hfz19_1, hfz19_2, hfz19_3, hfz19_4, hfz19_5, hfz19_6, hfz19_7, hfz19_8, hfz19_9⟩ := fz10 BK616) | ((with_reducible refine gate_callee (f := 14) rfl ?_); refine goesB (some 29) rfl rfl Try.func14 #[.agg #[.int .u16 a1_0, .int .u8 a1_1, .int .u8 a1_2, .int .u8 a1_3, .int .u8 a1_4, .int .i64 a1_5, .int .i64 a1_6, .int .i64 a1_7, .int .u8 a1_8, .int .i64 a1_9], .agg #[.int .u16 a2_0, .int .u8 a2_1, .int .u8 a2_2, .int .u8 a2_3, .int .u8 a2_4, .int .i64 a2_5, .int .i64 a2_6, .int .i64 a2_7, .int .u8 a2_8, .int .i64 a2_9]] rfl ?_; (with_reducible refine (style_Merge.calls a1_0 a1_1 a1_2 a1_3 a1_4 a1_5 a1_6 a1_7 a1_8 a1_9 a2_0 a2_1 a2_2 a2_3 a2_4 a2_5 a2_6 a2_7 a2_8 a2_9 t618 t619 t620 t621 t622 t623 t624 t625 t626 t627 t628 _ A5.out).mono ?_); rintro e w20 ⟨rfl, hb⟩; refine ⟨_, rfl, ?_⟩; replace BK614 := bb BK614 hb; replace BK615 := bb BK615 hb; replace BK616 := bb BK616 hb; replace HB := bh HB hb; (try clear hb); (try clear hb2); (try clear hk); (try clear hi)) | ((with_reducible refine gate_dst (N := 7) rfl ?_); refine box_event ?hg (N := 7) ?hd (cs := #[.int .u16 0, .int .u8 0, .int .u8 0, .int .u8 0, .int .u8 0, .int .i64 0, .int .i64 0, .int .i64 0, .int .u8 0, .int .i64 0]) (t := 26) ?hr ?_; (case hd => rfl); (case hg => rfl); (case hr => first | (go_simp; done) | (go_simp; rfl)); intro gb629 hg w21 hbox hb; have BK629 := Aside0.mk (hbox); have GW629 := bge HB hg; have GE629 := bge HB hg; replace HB := bh HB hb; have NB614_629 := nbl BK614 hg; have NB629_614 := nbg BK614 hg; replace BK614 := bb BK614 hb; have NB615_629 := nbl BK615 hg; have NB629_615 := nbg BK615 hg; replace BK615 := bb BK615 hb; have NB616_629 := nbl BK616 hg; have NB629_616 := nbg BK616 hg; replace BK616 := bb BK616 hb; clear hb hbox hg; have hnb22 := NB629_614.out; have hnc22 := NB614_629.out; have hnb23 := NB629_615.out; have hnc23 := NB615_629.out; have hnb24 := NB629_616.out; have hnc24 := NB616_629.out; obtain ⟨hcz25_0, hcz25_1, hcz25_2, hcz25_3, hcz25_4, hcz25_5, hcz25_6, hcz25_7, hcz25_8, hcz25_9⟩ := cz10 BK629; obtain ⟨hfz25_0, hfz25_1, hfz25_2, hfz25_3, hfz25_4, hfz25_5, hfz25_6, hfz25_7, hfz25_8, hfz25_9⟩ := fz10 BK629; obtain ⟨hcz26_0, hcz26_1, hcz26_2, hcz26_3, hcz26_4, hcz26_5, hcz26_6, hcz26_7, hcz26_8, hcz26_9⟩ := cz10 BK616; obtain ⟨hfz26_0, hfz26_1, hfz26_2, hfz26_3, hfz26_4, hfz26_5, hfz26_6, hfz26_7, hfz26_8, hfz26_9⟩ := fz10 BK616; obtain ⟨hcz27_0, hcz27_1, hcz27_2, hcz27_3, hcz27_4, hcz27_5, hcz27_6, hcz27_7, hcz27_8, hcz27_9⟩ := cz10 BK615; obtain ⟨hfz27_0, hfz27_1, hfz27_2, hfz27_3, hfz27_4, hfz27_5, hfz27_6, hfz27_7, hfz27_8, hfz27_9⟩ := fz10 BK615) | ((with_reducible refine gate_callee (f := 14) rfl ?_); refine goesB (some 35) rfl rfl Try.func14 #[.agg #[.int .u16 a2_0, .int .u8 a2_1, .int .u8 a2_2, .int .u8 a2_3, .int .u8 a2_4, .int .i64 a2_5, .int .i64 a2_6, .int .i64 a2_7, .int .u8 a2_8, .int .i64 a2_9], .agg #[.int .u16 a1_0, .int .u8 a1_1, .int .u8 a1_2, .int .u8 a1_3, .int .u8 a1_4, .int .i64 a1_5, .int .i64 a1_6, .int .i64 a1_7, .int .u8 a1_8, .int .i64 a1_9]] rfl ?_; (with_reducible refine (style_Merge.calls a2_0 a2_1 a2_2 a2_3 a2_4 a2_5 a2_6 a2_7 a2_8 a2_9 a1_0 a1_1 a1_2 a1_3 a1_4 a1_5 a1_6 a1_7 a1_8 a1_9 t630 t631 t632 t633 t634 t635 t636 t637 t638 t639 t640 _ A6.out).mono ?_); rintro e w28 ⟨rfl, hb⟩; refine ⟨_, rfl, ?_⟩; replace BK614 := bb BK614 hb; replace BK615 := bb BK615 hb; replace BK616 := bb BK616 hb; replace BK629 := Aside0.mk (blk_below (o := .cells #[.int .u16 t618, .int .u8 t619, .int .u8 t620, .int .u8 t621, .int .u8 t622, .int .i64 t623, .int .i64 t624, .int .i64 t625, .int .u8 t626, .int .i64 t627] 26 (0, 0)) (bp BK629) hb); replace HB := bh HB hb; (try clear hb); (try clear hb2); (try clear hk); (try clear hi)) | ((with_reducible refine gate_dst (N := 9) rfl ?_); refine box_event ?hg (N := 9) ?hd (cs := #[.int .u16 0, .int .u8 0, .int .u8 0, .int .u8 0, .int .u8 0, .int .i64 0, .int .i64 0, .int .i64 0, .int .u8 0, .int .i64 0]) (t := 26) ?hr ?_; (case hd => rfl); (case hg => rfl); (case hr => first | (go_simp; done) | (go_simp; rfl)); intro gb641 hg w29 hbox hb; have BK641 := Aside0.mk (hbox); have GW641 := bge HB hg; have GE641 := bge HB hg; replace HB := bh HB hb; have NB614_641 := nbl BK614 hg; have NB641_614 := nbg BK614 hg; replace BK614 := bb BK614 hb; have NB615_641 := nbl BK615 hg; have NB641_615 := nbg BK615 hg; replace BK615 := bb BK615 hb; have NB616_641 := nbl BK616 hg; have NB641_616 := nbg BK616 hg; replace BK616 := bb BK616 hb; have NB629_641 := nbl BK629 hg; have NB641_629 := nbg BK629 hg; replace BK629 := bb BK629 hb; clear hb hbox hg; have hnb30 := NB641_614.out; have hnc30 := NB614_641.out; have hnb31 := NB641_615.out; have hnc31 := NB615_641.out; have hnb32 := NB641_616.out; have hnc32 := NB616_641.out; have hnb33 := NB641_629.out; have hnc33 := NB629_641.out; obtain ⟨hcz34_0, hcz34_1, hcz34_2, hcz34_3, hcz34_4, hcz34_5, hcz34_6, hcz34_7, hcz34_8, hcz34_9⟩ := cz10 BK641; obtain ⟨hfz34_0, hfz34_1, hfz34_2, hfz34_3, hfz34_4, hfz34_5, hfz34_6, hfz34_7, hfz34_8, hfz34_9⟩ := fz10 BK641; obtain ⟨hcz35_0, hcz35_1, hcz35_2, hcz35_3, hcz35_4, hcz35_5, hcz35_6, hcz35_7, hcz35_8⟩ := cz9 BK614; obtain ⟨hfz35_0, hfz35_1, hfz35_2, hfz35_3, hfz35_4, hfz35_5, hfz35_6, hfz35_7, hfz35_8⟩ := fz9 BK614; obtain ⟨hcz36_0, hcz36_1, hcz36_2, hcz36_3, hcz36_4, hcz36_5, hcz36_6, hcz36_7, hcz36_8, hcz36_9⟩ := cz10 BK615; obtain ⟨hfz36_0, hfz36_1, hfz36_2, hfz36_3, hfz36_4, hfz36_5, hfz36_6, hfz36_7, hfz36_8, hfz36_9⟩ := fz10 BK615) | ((with_reducible refine gate_callee (f := 12) rfl ?_); refine goesB (some 41) rfl rfl Try.func12 #[.agg #[.int .u8 a0_0, .int .u8 a0_1, .int .u8 a0_2, .int .u8 a0_3, .int .i64 a0_4, .int .i64 a0_5, .int .i64 a0_6, .int .u8 a0_7, .int .i64 a0_8], .agg #[.int .u16 a1_0, .int .u8 a1_1, .int .u8 a1_2, .int .u8 a1_3, .int .u8 a1_4, .int .i64 a1_5, .int .i64 a1_6, .int .i64 a1_7, .int .u8 a1_8, .int .i64 a1_9]] rfl ?_; (with_reducible refine (style_Resolve.calls a0_0 a0_1 a0_2 a0_3 a0_4 a0_5 a0_6 a0_7 a0_8 a1_0 a1_1 a1_2 a1_3 a1_4 a1_5 a1_6 a1_7 a1_8 a1_9 t642 t643 t644 t645 t646 t647 t648 t649 t650 t651 _ A7.out).mono ?_); rintro e w37 ⟨rfl, hb⟩; refine ⟨_, rfl, ?_⟩; replace BK614 := bb BK614 hb; replace BK615 := bb BK615 hb; replace BK616 := bb BK616 hb; replace BK629 := bb BK629 hb; replace BK641 := Aside0.mk (blk_below (o := .cells #[.int .u16 t630, .int .u8 t631, .int .u8 t632, .int .u8 t633, .int .u8 t634, .int .i64 t635, .int .i64 t636, .int .i64 t637, .int .u8 t638, .int .i64 t639] 26 (0, 0)) (bp BK641) hb); replace HB := bh HB hb; (try clear hb); (try clear hb2); (try clear hk); (try clear hi)) | ((with_reducible refine gate_dst (N := 11) rfl ?_); refine box_event ?hg (N := 11) ?hd (cs := #[.int .u8 0, .int .u8 0, .int .u8 0, .int .u8 0, .int .i64 0, .int .i64 0, .int .i64 0, .int .u8 0, .int .i64 0]) (t := 23) ?hr ?_; (case hd => rfl); (case hg => rfl); (case hr => first | (go_simp; done) | (go_simp; rfl)); intro gb652 hg w38 hbox hb; have BK652 := Aside0.mk (hbox); have GW652 := bge HB hg; have GE652 := bge HB hg; replace HB := bh HB hb; have NB614_652 := nbl BK614 hg; have NB652_614 := nbg BK614 hg; replace BK614 := bb BK614 hb; have NB615_652 := nbl BK615 hg; have NB652_615 := nbg BK615 hg; replace BK615 := bb BK615 hb; have NB616_652 := nbl BK616 hg; have NB652_616 := nbg BK616 hg; replace BK616 := bb BK616 hb; have NB629_652 := nbl BK629 hg; have NB652_629 := nbg BK629 hg; replace BK629 := bb BK629 hb; have NB641_652 := nbl BK641 hg; have NB652_641 := nbg BK641 hg; replace BK641 := bb BK641 hb; clear hb hbox hg; have hnb39 := NB652_614.out; have hnc39 := NB614_652.out; have hnb40 := NB652_615.out; have hnc40 := NB615_652.out; have hnb41 := NB652_616.out; have hnc41 := NB616_652.out; have hnb42 := NB652_629.out; have hnc42 := NB629_652.out; have hnb43 := NB652_641.out; have hnc43 := NB641_652.out; obtain ⟨hcz44_0, hcz44_1, hcz44_2, hcz44_3, hcz44_4, hcz44_5, hcz44_6, hcz44_7, hcz44_8⟩ := cz9 BK652; obtain ⟨hfz44_0, hfz44_1, hfz44_2, hfz44_3, hfz44_4, hfz44_5, hfz44_6, hfz44_7, hfz44_8⟩ := fz9 BK652; obtain ⟨hcz45_0, hcz45_1, hcz45_2, hcz45_3, hcz45_4, hcz45_5, hcz45_6, hcz45_7, hcz45_8, hcz45_9⟩ := cz10 BK616; obtain ⟨hfz45_0, hfz45_1, hfz45_2, hfz45_3, hfz45_4, hfz45_5, hfz45_6, hfz45_7, hfz45_8, hfz45_9⟩ := fz10 BK616) | ((with_reducible refine gate_callee (f := 12) rfl ?_); refine goesB (some 47) rfl rfl Try.func12 #[.agg #[.int .u8 t642, .int .u8 t643, .int .u8 t644, .int .u8 t645, .int .i64 t646, .int .i64 t647, .int .i64 t648, .int .u8 t649, .int .i64 t650], .agg #[.int .u16 a2_0, .int .u8 a2_1, .int .u8 a2_2, .int .u8 a2_3, .int .u8 a2_4, .int .i64 a2_5, .int .i64 a2_6, .int .i64 a2_7, .int .u8 a2_8, .int .i64 a2_9]] rfl ?_; (with_reducible refine (style_Resolve.calls t642 t643 t644 t645 t646 t647 t648 t649 t650 a2_0 a2_1 a2_2 a2_3 a2_4 a2_5 a2_6 a2_7 a2_8 a2_9 t653 t654 t655 t656 t657 t658 t659 t660 t661 t662 _ A8.out).mono ?_); rintro e w46 ⟨rfl, hb⟩; refine ⟨_, rfl, ?_⟩; replace BK614 := bb BK614 hb; replace BK615 := bb BK615 hb; replace BK616 := bb BK616 hb; replace BK629 := bb BK629 hb; replace BK641 := bb BK641 hb; replace BK652 := Aside0.mk (blk_below (o := .cells #[.int .u8 t642, .int .u8 t643, .int .u8 t644, .int .u8 t645, .int .i64 t646, .int .i64 t647, .int .i64 t648, .int .u8 t649, .int .i64 t650] 23 (0, 0)) (bp BK652) hb); replace HB := bh HB hb; (try clear hb); (try clear hb2); (try clear hk); (try clear hi)) | ((with_reducible refine gate_dst (N := 13) rfl ?_); refine box_event ?hg (N := 13) ?hd (cs := #[.int .u8 0, .int .u8 0, .int .u8 0, .int .u8 0, .int .i64 0, .int .i64 0, .int .i64 0, .int .u8 0, .int .i64 0]) (t := 23) ?hr ?_; (case hd => rfl); (case hg => rfl); (case hr => first | (go_simp; done) | (go_simp; rfl)); intro gb663 hg w47 hbox hb; have BK663 := Aside0.mk (hbox); have GW663 := bge HB hg; have GE663 := bge HB hg; replace HB := bh HB hb; have NB614_663 := nbl BK614 hg; have NB663_614 := nbg BK614 hg; replace BK614 := bb BK614 hb; have NB615_663 := nbl BK615 hg; have NB663_615 := nbg BK615 hg; replace BK615 := bb BK615 hb; have NB616_663 := nbl BK616 hg; have NB663_616 := nbg BK616 hg; replace BK616 := bb BK616 hb; have NB629_663 := nbl BK629 hg; have NB663_629 := nbg BK629 hg; replace BK629 := bb BK629 hb; have NB641_663 := nbl BK641 hg; have NB663_641 := nbg BK641 hg; replace BK641 := bb BK641 hb; have NB652_663 := nbl BK652 hg; have NB663_652 := nbg BK652 hg; replace BK652 := bb BK652 hb; clear hb hbox hg; have hnb48 := NB663_614.out; have hnc48 := NB614_663.out; have hnb49 := NB663_615.out; have hnc49 := NB615_663.out; have hnb50 := NB663_616.out; have hnc50 := NB616_663.out; have hnb51 := NB663_629.out; have hnc51 := NB629_663.out; have hnb52 := NB663_641.out; have hnc52 := NB641_663.out; have hnb53 := NB663_652.out; have hnc53 := NB652_663.out; obtain ⟨hcz54_0, hcz54_1, hcz54_2, hcz54_3, hcz54_4, hcz54_5, hcz54_6, hcz54_7, hcz54_8⟩ := cz9 BK663; obtain ⟨hfz54_0, hfz54_1, hfz54_2, hfz54_3, hfz54_4, hfz54_5, hfz54_6, hfz54_7, hfz54_8⟩ := fz9 BK663; obtain ⟨hcz55_0, hcz55_1, hcz55_2, hcz55_3, hcz55_4, hcz55_5, hcz55_6, hcz55_7, hcz55_8⟩ := cz9 BK614; obtain ⟨hfz55_0, hfz55_1, hfz55_2, hfz55_3, hfz55_4, hfz55_5, hfz55_6, hfz55_7, hfz55_8⟩ := fz9 BK614; obtain ⟨hcz56_0, hcz56_1, hcz56_2, hcz56_3, hcz56_4, hcz56_5, hcz56_6, hcz56_7, hcz56_8, hcz56_9⟩ := cz10 BK616; obtain ⟨hfz56_0, hfz56_1, hfz56_2, hfz56_3, hfz56_4, hfz56_5, hfz56_6, hfz56_7, hfz56_8, hfz56_9⟩ := fz10 BK616) | ((with_reducible refine gate_callee (f := 12) rfl ?_); refine goesB (some 53) rfl rfl Try.func12 #[.agg #[.int .u8 a0_0, .int .u8 a0_1, .int .u8 a0_2, .int .u8 a0_3, .int .i64 a0_4, .int .i64 a0_5, .int .i64 a0_6, .int .u8 a0_7, .int .i64 a0_8], .agg #[.int .u16 a2_0, .int .u8 a2_1, .int .u8 a2_2, .int .u8 a2_3, .int .u8 a2_4, .int .i64 a2_5, .int .i64 a2_6, .int .i64 a2_7, .int .u8 a2_8, .int .i64 a2_9]] rfl ?_; (with_reducible refine (style_Resolve.calls a0_0 a0_1 a0_2 a0_3 a0_4 a0_5 a0_6 a0_7 a0_8 a2_0 a2_1 a2_2 a2_3 a2_4 a2_5 a2_6 a2_7 a2_8 a2_9 t664 t665 t666 t667 t668 t669 t670 t671 t672 t673 _ A9.out).mono ?_); rintro e w57 ⟨rfl, hb⟩; refine ⟨_, rfl, ?_⟩; replace BK614 := bb BK614 hb; replace BK615 := bb BK615 hb; replace BK616 := bb BK616 hb; replace BK629 := bb BK629 hb; replace BK641 := bb BK641 hb; replace BK652 := bb BK652 hb; replace BK663 := Aside0.mk (blk_below (o := .cells #[.int .u8 t653, .int .u8 t654, .int .u8 t655, .int .u8 t656, .int .i64 t657, .int .i64 t658, .int .i64 t659, .int .u8 t660, .int .i64 t661] 23 (0, 0)) (bp BK663) hb); replace HB := bh HB hb; (try clear hb); (try clear hb2); (try clear hk); (try clear hi)) | ((with_reducible refine gate_dst (N := 15) rfl ?_); refine box_event ?hg (N := 15) ?hd (cs := #[.int .u8 0, .int .u8 0, .int .u8 0, .int .u8 0, .int .i64 0, .int .i64 0, .int .i64 0, .int .u8 0, .int .i64 0]) (t := 23) ?hr ?_; (case hd => rfl); (case hg => rfl); (case hr => first | (go_simp; done) | (go_simp; rfl)); intro gb674 hg w58 hbox hb; have BK674 := Aside0.mk (hbox); have GW674 := bge HB hg; have GE674 := bge HB hg; replace HB := bh HB hb; have NB614_674 := nbl BK614 hg; have NB674_614 := nbg BK614 hg; replace BK614 := bb BK614 hb; have NB615_674 := nbl BK615 hg; have NB674_615 := nbg BK615 hg; replace BK615 := bb BK615 hb; have NB616_674 := nbl BK616 hg; have NB674_616 := nbg BK616 hg; replace BK616 := bb BK616 hb; have NB629_674 := nbl BK629 hg; have NB674_629 := nbg BK629 hg; replace BK629 := bb BK629 hb; have NB641_674 := nbl BK641 hg; have NB674_641 := nbg BK641 hg; replace BK641 := bb BK641 hb; have NB652_674 := nbl BK652 hg; have NB674_652 := nbg BK652 hg; replace BK652 := bb BK652 hb; have NB663_674 := nbl BK663 hg; have NB674_663 := nbg BK663 hg; replace BK663 := bb BK663 hb; clear hb hbox hg; have hnb59 := NB674_614.out; have hnc59 := NB614_674.out; have hnb60 := NB674_615.out; have hnc60 := NB615_674.out; have hnb61 := NB674_616.out; have hnc61 := NB616_674.out; have hnb62 := NB674_629.out; have hnc62 := NB629_674.out; have hnb63 := NB674_641.out; have hnc63 := NB641_674.out; have hnb64 := NB674_652.out; have hnc64 := NB652_674.out; have hnb65 := NB674_663.out; have hnc65 := NB663_674.out; obtain ⟨hcz66_0, hcz66_1, hcz66_2, hcz66_3, hcz66_4, hcz66_5, hcz66_6, hcz66_7, hcz66_8⟩ := cz9 BK674; obtain ⟨hfz66_0, hfz66_1, hfz66_2, hfz66_3, hfz66_4, hfz66_5, hfz66_6, hfz66_7, hfz66_8⟩ := fz9 BK674; obtain ⟨hcz67_0, hcz67_1, hcz67_2, hcz67_3, hcz67_4, hcz67_5, hcz67_6, hcz67_7, hcz67_8, hcz67_9⟩ := cz10 BK615; obtain ⟨hfz67_0, hfz67_1, hfz67_2, hfz67_3, hfz67_4, hfz67_5, hfz67_6, hfz67_7, hfz67_8, hfz67_9⟩ := fz10 BK615) | ((with_reducible refine gate_callee (f := 12) rfl ?_); refine goesB (some 59) rfl rfl Try.func12 #[.agg #[.int .u8 t664, .int .u8 t665, .int .u8 t666, .int .u8 t667, .int .i64 t668, .int .i64 t669, .int .i64 t670, .int .u8 t671, .int .i64 t672], .agg #[.int .u16 a1_0, .int .u8 a1_1, .int .u8 a1_2, .int .u8 a1_3, .int .u8 a1_4, .int .i64 a1_5, .int .i64 a1_6, .int .i64 a1_7, .int .u8 a1_8, .int .i64 a1_9]] rfl ?_; (with_reducible refine (style_Resolve.calls t664 t665 t666 t667 t668 t669 t670 t671 t672 a1_0 a1_1 a1_2 a1_3 a1_4 a1_5 a1_6 a1_7 a1_8 a1_9 t675 t676 t677 t678 t679 t680 t681 t682 t683 t684 _ A10.out).mono ?_); rintro e w68 ⟨rfl, hb⟩; refine ⟨_, rfl, ?_⟩; replace BK614 := bb BK614 hb; replace BK615 := bb BK615 hb; replace BK616 := bb BK616 hb; replace BK629 := bb BK629 hb; replace BK641 := bb BK641 hb; replace BK652 := bb BK652 hb; replace BK663 := bb BK663 hb; replace BK674 := Aside0.mk (blk_below (o := .cells #[.int .u8 t664, .int .u8 t665, .int .u8 t666, .int .u8 t667, .int .i64 t668, .int .i64 t669, .int .i64 t670, .int .u8 t671, .int .i64 t672] 23 (0, 0)) (bp BK674) hb); replace HB := bh HB hb; (try clear hb); (try clear hb2); (try clear hk); (try clear hi)) | ((with_reducible refine gate_dst (N := 17) rfl ?_); refine box_event ?hg (N := 17) ?hd (cs := #[.int .u8 0, .int .u8 0, .int .u8 0, .int .u8 0, .int .i64 0, .int .i64 0, .int .i64 0, .int .u8 0, .int .i64 0]) (t := 23) ?hr ?_; (case hd => rfl); (case hg => rfl); (case hr => first | (go_simp; done) | (go_simp; rfl)); intro gb685 hg w69 hbox hb; have BK685 := Aside0.mk (hbox); have GW685 := bge HB hg; have GE685 := bge HB hg; replace HB := bh HB hb; have NB614_685 := nbl BK614 hg; have NB685_614 := nbg BK614 hg; replace BK614 := bb BK614 hb; have NB615_685 := nbl BK615 hg; have NB685_615 := nbg BK615 hg; replace BK615 := bb BK615 hb; have NB616_685 := nbl BK616 hg; have NB685_616 := nbg BK616 hg; replace BK616 := bb BK616 hb; have NB629_685 := nbl BK629 hg; have NB685_629 := nbg BK629 hg; replace BK629 := bb BK629 hb; have NB641_685 := nbl BK641 hg; have NB685_641 := nbg BK641 hg; replace BK641 := bb BK641 hb; have NB652_685 := nbl BK652 hg; have NB685_652 := nbg BK652 hg; replace BK652 := bb BK652 hb; have NB663_685 := nbl BK663 hg; have NB685_663 := nbg BK663 hg; replace BK663 := bb BK663 hb; have NB674_685 := nbl BK674 hg; have NB685_674 := nbg BK674 hg; replace BK674 := bb BK674 hb; clear hb hbox hg; have hnb70 := NB685_614.out; have hnc70 := NB614_685.out; have hnb71 := NB685_615.out; have hnc71 := NB615_685.out; have hnb72 := NB685_616.out; have hnc72 := NB616_685.out; have hnb73 := NB685_629.out; have hnc73 := NB629_685.out; have hnb74 := NB685_641.out; have hnc74 := NB641_685.out; have hnb75 := NB685_652.out; have hnc75 := NB652_685.out; have hnb76 := NB685_663.out; have hnc76 := NB663_685.out; have hnb77 := NB685_674.out; have hnc77 := NB674_685.out; obtain ⟨hcz78_0, hcz78_1, hcz78_2, hcz78_3, hcz78_4, hcz78_5, hcz78_6, hcz78_7, hcz78_8⟩ := cz9 BK685; obtain ⟨hfz78_0, hfz78_1, hfz78_2, hfz78_3, hfz78_4, hfz78_5, hfz78_6, hfz78_7, hfz78_8⟩ := fz9 BK685))
    (try simp only [Act.put, List.setIfInBounds_toArray, List.set_cons_zero, List.set_cons_succ])
    go_cut [67] (fun v67 wc => ∃ (kq : Nat) (x67_10 : Bool), v67 = .bool x67_10 ∧ Aside0 (stickfullaw06_StyleApart.j0 kq t628 t640 t662 t684 x67_10 t618 t619 t620 t621 t622 t623 t624 t625 t626 t627 t630 t631 t632 t633 t634 t635 t636 t637 t638 t639 t653 t654 t655 t656 t657 t658 t659 t660 t661 t675 t676 t677 t678 t679 t680 t681 t682 t683 = some r) ∧ Aside0 (kq ≤ k) ∧ Aside0 (wc.heap[gb614]? = some (.cells #[.int .u8 a0_0, .int .u8 a0_1, .int .u8 a0_2, .int .u8 a0_3, .int .i64 a0_4, .int .i64 a0_5, .int .i64 a0_6, .int .u8 a0_7, .int .i64 a0_8] 23 (0, 0))) ∧ Aside0 (wc.heap[gb615]? = some (.cells #[.int .u16 a1_0, .int .u8 a1_1, .int .u8 a1_2, .int .u8 a1_3, .int .u8 a1_4, .int .i64 a1_5, .int .i64 a1_6, .int .i64 a1_7, .int .u8 a1_8, .int .i64 a1_9] 26 (0, 0))) ∧ Aside0 (wc.heap[gb616]? = some (.cells #[.int .u16 a2_0, .int .u8 a2_1, .int .u8 a2_2, .int .u8 a2_3, .int .u8 a2_4, .int .i64 a2_5, .int .i64 a2_6, .int .i64 a2_7, .int .u8 a2_8, .int .i64 a2_9] 26 (0, 0))) ∧ Aside0 (wc.heap[gb629]? = some (.cells #[.int .u16 t618, .int .u8 t619, .int .u8 t620, .int .u8 t621, .int .u8 t622, .int .i64 t623, .int .i64 t624, .int .i64 t625, .int .u8 t626, .int .i64 t627] 26 (0, 0))) ∧ Aside0 (wc.heap[gb641]? = some (.cells #[.int .u16 t630, .int .u8 t631, .int .u8 t632, .int .u8 t633, .int .u8 t634, .int .i64 t635, .int .i64 t636, .int .i64 t637, .int .u8 t638, .int .i64 t639] 26 (0, 0))) ∧ Aside0 (wc.heap[gb652]? = some (.cells #[.int .u8 t642, .int .u8 t643, .int .u8 t644, .int .u8 t645, .int .i64 t646, .int .i64 t647, .int .i64 t648, .int .u8 t649, .int .i64 t650] 23 (0, 0))) ∧ Aside0 (wc.heap[gb663]? = some (.cells #[.int .u8 t653, .int .u8 t654, .int .u8 t655, .int .u8 t656, .int .i64 t657, .int .i64 t658, .int .i64 t659, .int .u8 t660, .int .i64 t661] 23 (0, 0))) ∧ Aside0 (wc.heap[gb674]? = some (.cells #[.int .u8 t664, .int .u8 t665, .int .u8 t666, .int .u8 t667, .int .i64 t668, .int .i64 t669, .int .i64 t670, .int .u8 t671, .int .i64 t672] 23 (0, 0))) ∧ Aside0 (wc.heap[gb685]? = some (.cells #[.int .u8 t675, .int .u8 t676, .int .u8 t677, .int .u8 t678, .int .i64 t679, .int .i64 t680, .int .i64 t681, .int .u8 t682, .int .i64 t683] 23 (0, 0))) ∧ Aside0 (Below w.heap.size w wc))
    case first =>
      have H := HC11.out
      clear HC11
      by_cases c79 : t651 = 0
      · rw [if_pos c79] at H
        have c79b0 : (t651 == 0) = true := beq_iff_eq.mpr c79
        have c79b1 : (t651 != 0) = false := bne_eq_false_iff_eq.mpr c79
        clear c79
        (first | rw [c79b0] | (simp only [i64_w, i32_w]; rw [c79b0]) | skip)
        have H' := Aside0.mk H
        clear H
        go_wp2
        go_meet
        case rel => exact ⟨_, ((t673 != 0)), (by first | rfl | (simp; done) | (simp [*]; done)), H', ⟨by first | omega | exact Nat.le_refl _⟩, ⟨by (with_reducible repeat (first | refine blk_drewN ?_ _ | refine blk_drew ?_ | refine blk_alloc ?_ _)); refine blk_far ?_ NB614_685.out _; (with_reducible repeat (first | refine blk_drewN ?_ _ | refine blk_drew ?_ | refine blk_alloc ?_ _)); refine blk_far ?_ NB614_685.out _; (with_reducible repeat (first | refine blk_drewN ?_ _ | refine blk_drew ?_ | refine blk_alloc ?_ _)); refine blk_far ?_ NB614_685.out _; (with_reducible repeat (first | refine blk_drewN ?_ _ | refine blk_drew ?_ | refine blk_alloc ?_ _)); refine blk_far ?_ NB614_685.out _; (with_reducible repeat (first | refine blk_drewN ?_ _ | refine blk_drew ?_ | refine blk_alloc ?_ _)); refine blk_far ?_ NB614_685.out _; (with_reducible repeat (first | refine blk_drewN ?_ _ | refine blk_drew ?_ | refine blk_alloc ?_ _)); refine blk_far ?_ NB614_685.out _; (with_reducible repeat (first | refine blk_drewN ?_ _ | refine blk_drew ?_ | refine blk_alloc ?_ _)); refine blk_far ?_ NB614_685.out _; (with_reducible repeat (first | refine blk_drewN ?_ _ | refine blk_drew ?_ | refine blk_alloc ?_ _)); refine blk_far ?_ NB614_685.out _; (with_reducible repeat (first | refine blk_drewN ?_ _ | refine blk_drew ?_ | refine blk_alloc ?_ _)); refine blk_far ?_ NB614_685.out _; (with_reducible repeat (first | refine blk_drewN ?_ _ | refine blk_drew ?_ | refine blk_alloc ?_ _)); exact BK614.out⟩, ⟨by (with_reducible repeat (first | refine blk_drewN ?_ _ | refine blk_drew ?_ | refine blk_alloc ?_ _)); refine blk_far ?_ NB615_685.out _; (with_reducible repeat (first | refine blk_drewN ?_ _ | refine blk_drew ?_ | refine blk_alloc ?_ _)); refine blk_far ?_ NB615_685.out _; (with_reducible repeat (first | refine blk_drewN ?_ _ | refine blk_drew ?_ | refine blk_alloc ?_ _)); refine blk_far ?_ NB615_685.out _; (with_reducible repeat (first | refine blk_drewN ?_ _ | refine blk_drew ?_ | refine blk_alloc ?_ _)); refine blk_far ?_ NB615_685.out _; (with_reducible repeat (first | refine blk_drewN ?_ _ | refine blk_drew ?_ | refine blk_alloc ?_ _)); refine blk_far ?_ NB615_685.out _; (with_reducible repeat (first | refine blk_drewN ?_ _ | refine blk_drew ?_ | refine blk_alloc ?_ _)); refine blk_far ?_ NB615_685.out _; (with_reducible repeat (first | refine blk_drewN ?_ _ | refine blk_drew ?_ | refine blk_alloc ?_ _)); refine blk_far ?_ NB615_685.out _; (with_reducible repeat (first | refine blk_drewN ?_ _ | refine blk_drew ?_ | refine blk_alloc ?_ _)); refine blk_far ?_ NB615_685.out _; (with_reducible repeat (first | refine blk_drewN ?_ _ | refine blk_drew ?_ | refine blk_alloc ?_ _)); refine blk_far ?_ NB615_685.out _; (with_reducible repeat (first | refine blk_drewN ?_ _ | refine blk_drew ?_ | refine blk_alloc ?_ _)); exact BK615.out⟩, ⟨by (with_reducible repeat (first | refine blk_drewN ?_ _ | refine blk_drew ?_ | refine blk_alloc ?_ _)); refine blk_far ?_ NB616_685.out _; (with_reducible repeat (first | refine blk_drewN ?_ _ | refine blk_drew ?_ | refine blk_alloc ?_ _)); refine blk_far ?_ NB616_685.out _; (with_reducible repeat (first | refine blk_drewN ?_ _ | refine blk_drew ?_ | refine blk_alloc ?_ _)); refine blk_far ?_ NB616_685.out _; (with_reducible repeat (first | refine blk_drewN ?_ _ | refine blk_drew ?_ | refine blk_alloc ?_ _)); refine blk_far ?_ NB616_685.out _; (with_reducible repeat (first | refine blk_drewN ?_ _ | refine blk_drew ?_ | refine blk_alloc ?_ _)); refine blk_far ?_ NB616_685.out _; (with_reducible repeat (first | refine blk_drewN ?_ _ | refine blk_drew ?_ | refine blk_alloc ?_ _)); refine blk_far ?_ NB616_685.out _; (with_reducible repeat (first | refine blk_drewN ?_ _ | refine blk_drew ?_ | refine blk_alloc ?_ _)); refine blk_far ?_ NB616_685.out _; (with_reducible repeat (first | refine blk_drewN ?_ _ | refine blk_drew ?_ | refine blk_alloc ?_ _)); refine blk_far ?_ NB616_685.out _; (with_reducible repeat (first | refine blk_drewN ?_ _ | refine blk_drew ?_ | refine blk_alloc ?_ _)); refine blk_far ?_ NB616_685.out _; (with_reducible repeat (first | refine blk_drewN ?_ _ | refine blk_drew ?_ | refine blk_alloc ?_ _)); exact BK616.out⟩, ⟨by (with_reducible repeat (first | refine blk_drewN ?_ _ | refine blk_drew ?_ | refine blk_alloc ?_ _)); refine blk_far ?_ NB629_685.out _; (with_reducible repeat (first | refine blk_drewN ?_ _ | refine blk_drew ?_ | refine blk_alloc ?_ _)); refine blk_far ?_ NB629_685.out _; (with_reducible repeat (first | refine blk_drewN ?_ _ | refine blk_drew ?_ | refine blk_alloc ?_ _)); refine blk_far ?_ NB629_685.out _; (with_reducible repeat (first | refine blk_drewN ?_ _ | refine blk_drew ?_ | refine blk_alloc ?_ _)); refine blk_far ?_ NB629_685.out _; (with_reducible repeat (first | refine blk_drewN ?_ _ | refine blk_drew ?_ | refine blk_alloc ?_ _)); refine blk_far ?_ NB629_685.out _; (with_reducible repeat (first | refine blk_drewN ?_ _ | refine blk_drew ?_ | refine blk_alloc ?_ _)); refine blk_far ?_ NB629_685.out _; (with_reducible repeat (first | refine blk_drewN ?_ _ | refine blk_drew ?_ | refine blk_alloc ?_ _)); refine blk_far ?_ NB629_685.out _; (with_reducible repeat (first | refine blk_drewN ?_ _ | refine blk_drew ?_ | refine blk_alloc ?_ _)); refine blk_far ?_ NB629_685.out _; (with_reducible repeat (first | refine blk_drewN ?_ _ | refine blk_drew ?_ | refine blk_alloc ?_ _)); refine blk_far ?_ NB629_685.out _; (with_reducible repeat (first | refine blk_drewN ?_ _ | refine blk_drew ?_ | refine blk_alloc ?_ _)); exact BK629.out⟩, ⟨by (with_reducible repeat (first | refine blk_drewN ?_ _ | refine blk_drew ?_ | refine blk_alloc ?_ _)); refine blk_far ?_ NB641_685.out _; (with_reducible repeat (first | refine blk_drewN ?_ _ | refine blk_drew ?_ | refine blk_alloc ?_ _)); refine blk_far ?_ NB641_685.out _; (with_reducible repeat (first | refine blk_drewN ?_ _ | refine blk_drew ?_ | refine blk_alloc ?_ _)); refine blk_far ?_ NB641_685.out _; (with_reducible repeat (first | refine blk_drewN ?_ _ | refine blk_drew ?_ | refine blk_alloc ?_ _)); refine blk_far ?_ NB641_685.out _; (with_reducible repeat (first | refine blk_drewN ?_ _ | refine blk_drew ?_ | refine blk_alloc ?_ _)); refine blk_far ?_ NB641_685.out _; (with_reducible repeat (first | refine blk_drewN ?_ _ | refine blk_drew ?_ | refine blk_alloc ?_ _)); refine blk_far ?_ NB641_685.out _; (with_reducible repeat (first | refine blk_drewN ?_ _ | refine blk_drew ?_ | refine blk_alloc ?_ _)); refine blk_far ?_ NB641_685.out _; (with_reducible repeat (first | refine blk_drewN ?_ _ | refine blk_drew ?_ | refine blk_alloc ?_ _)); refine blk_far ?_ NB641_685.out _; (with_reducible repeat (first | refine blk_drewN ?_ _ | refine blk_drew ?_ | refine blk_alloc ?_ _)); refine blk_far ?_ NB641_685.out _; (with_reducible repeat (first | refine blk_drewN ?_ _ | refine blk_drew ?_ | refine blk_alloc ?_ _)); exact BK641.out⟩, ⟨by (with_reducible repeat (first | refine blk_drewN ?_ _ | refine blk_drew ?_ | refine blk_alloc ?_ _)); refine blk_far ?_ NB652_685.out _; (with_reducible repeat (first | refine blk_drewN ?_ _ | refine blk_drew ?_ | refine blk_alloc ?_ _)); refine blk_far ?_ NB652_685.out _; (with_reducible repeat (first | refine blk_drewN ?_ _ | refine blk_drew ?_ | refine blk_alloc ?_ _)); refine blk_far ?_ NB652_685.out _; (with_reducible repeat (first | refine blk_drewN ?_ _ | refine blk_drew ?_ | refine blk_alloc ?_ _)); refine blk_far ?_ NB652_685.out _; (with_reducible repeat (first | refine blk_drewN ?_ _ | refine blk_drew ?_ | refine blk_alloc ?_ _)); refine blk_far ?_ NB652_685.out _; (with_reducible repeat (first | refine blk_drewN ?_ _ | refine blk_drew ?_ | refine blk_alloc ?_ _)); refine blk_far ?_ NB652_685.out _; (with_reducible repeat (first | refine blk_drewN ?_ _ | refine blk_drew ?_ | refine blk_alloc ?_ _)); refine blk_far ?_ NB652_685.out _; (with_reducible repeat (first | refine blk_drewN ?_ _ | refine blk_drew ?_ | refine blk_alloc ?_ _)); refine blk_far ?_ NB652_685.out _; (with_reducible repeat (first | refine blk_drewN ?_ _ | refine blk_drew ?_ | refine blk_alloc ?_ _)); refine blk_far ?_ NB652_685.out _; (with_reducible repeat (first | refine blk_drewN ?_ _ | refine blk_drew ?_ | refine blk_alloc ?_ _)); exact BK652.out⟩, ⟨by (with_reducible repeat (first | refine blk_drewN ?_ _ | refine blk_drew ?_ | refine blk_alloc ?_ _)); refine blk_far ?_ NB663_685.out _; (with_reducible repeat (first | refine blk_drewN ?_ _ | refine blk_drew ?_ | refine blk_alloc ?_ _)); refine blk_far ?_ NB663_685.out _; (with_reducible repeat (first | refine blk_drewN ?_ _ | refine blk_drew ?_ | refine blk_alloc ?_ _)); refine blk_far ?_ NB663_685.out _; (with_reducible repeat (first | refine blk_drewN ?_ _ | refine blk_drew ?_ | refine blk_alloc ?_ _)); refine blk_far ?_ NB663_685.out _; (with_reducible repeat (first | refine blk_drewN ?_ _ | refine blk_drew ?_ | refine blk_alloc ?_ _)); refine blk_far ?_ NB663_685.out _; (with_reducible repeat (first | refine blk_drewN ?_ _ | refine blk_drew ?_ | refine blk_alloc ?_ _)); refine blk_far ?_ NB663_685.out _; (with_reducible repeat (first | refine blk_drewN ?_ _ | refine blk_drew ?_ | refine blk_alloc ?_ _)); refine blk_far ?_ NB663_685.out _; (with_reducible repeat (first | refine blk_drewN ?_ _ | refine blk_drew ?_ | refine blk_alloc ?_ _)); refine blk_far ?_ NB663_685.out _; (with_reducible repeat (first | refine blk_drewN ?_ _ | refine blk_drew ?_ | refine blk_alloc ?_ _)); refine blk_far ?_ NB663_685.out _; (with_reducible repeat (first | refine blk_drewN ?_ _ | refine blk_drew ?_ | refine blk_alloc ?_ _)); exact BK663.out⟩, ⟨by (with_reducible repeat (first | refine blk_drewN ?_ _ | refine blk_drew ?_ | refine blk_alloc ?_ _)); refine blk_far ?_ NB674_685.out _; (with_reducible repeat (first | refine blk_drewN ?_ _ | refine blk_drew ?_ | refine blk_alloc ?_ _)); refine blk_far ?_ NB674_685.out _; (with_reducible repeat (first | refine blk_drewN ?_ _ | refine blk_drew ?_ | refine blk_alloc ?_ _)); refine blk_far ?_ NB674_685.out _; (with_reducible repeat (first | refine blk_drewN ?_ _ | refine blk_drew ?_ | refine blk_alloc ?_ _)); refine blk_far ?_ NB674_685.out _; (with_reducible repeat (first | refine blk_drewN ?_ _ | refine blk_drew ?_ | refine blk_alloc ?_ _)); refine blk_far ?_ NB674_685.out _; (with_reducible repeat (first | refine blk_drewN ?_ _ | refine blk_drew ?_ | refine blk_alloc ?_ _)); refine blk_far ?_ NB674_685.out _; (with_reducible repeat (first | refine blk_drewN ?_ _ | refine blk_drew ?_ | refine blk_alloc ?_ _)); refine blk_far ?_ NB674_685.out _; (with_reducible repeat (first | refine blk_drewN ?_ _ | refine blk_drew ?_ | refine blk_alloc ?_ _)); refine blk_far ?_ NB674_685.out _; (with_reducible repeat (first | refine blk_drewN ?_ _ | refine blk_drew ?_ | refine blk_alloc ?_ _)); refine blk_far ?_ NB674_685.out _; (with_reducible repeat (first | refine blk_drewN ?_ _ | refine blk_drew ?_ | refine blk_alloc ?_ _)); exact BK674.out⟩, ⟨by (with_reducible repeat (first | refine blk_drewN ?_ _ | refine blk_drew ?_ | refine blk_alloc ?_ _)); refine blk_put (cs := #[.int .u8 t675, .int .u8 t676, .int .u8 t677, .int .u8 t678, .int .i64 t679, .int .i64 t680, .int .i64 t681, .int .u8 t682, .int .i64 0]) ?_ 8 _ rfl; (with_reducible repeat (first | refine blk_drewN ?_ _ | refine blk_drew ?_ | refine blk_alloc ?_ _)); refine blk_put (cs := #[.int .u8 t675, .int .u8 t676, .int .u8 t677, .int .u8 t678, .int .i64 t679, .int .i64 t680, .int .i64 t681, .int .u8 0, .int .i64 0]) ?_ 7 _ rfl; (with_reducible repeat (first | refine blk_drewN ?_ _ | refine blk_drew ?_ | refine blk_alloc ?_ _)); refine blk_put (cs := #[.int .u8 t675, .int .u8 t676, .int .u8 t677, .int .u8 t678, .int .i64 t679, .int .i64 t680, .int .i64 0, .int .u8 0, .int .i64 0]) ?_ 6 _ rfl; (with_reducible repeat (first | refine blk_drewN ?_ _ | refine blk_drew ?_ | refine blk_alloc ?_ _)); refine blk_put (cs := #[.int .u8 t675, .int .u8 t676, .int .u8 t677, .int .u8 t678, .int .i64 t679, .int .i64 0, .int .i64 0, .int .u8 0, .int .i64 0]) ?_ 5 _ rfl; (with_reducible repeat (first | refine blk_drewN ?_ _ | refine blk_drew ?_ | refine blk_alloc ?_ _)); refine blk_put (cs := #[.int .u8 t675, .int .u8 t676, .int .u8 t677, .int .u8 t678, .int .i64 0, .int .i64 0, .int .i64 0, .int .u8 0, .int .i64 0]) ?_ 4 _ rfl; (with_reducible repeat (first | refine blk_drewN ?_ _ | refine blk_drew ?_ | refine blk_alloc ?_ _)); refine blk_put (cs := #[.int .u8 t675, .int .u8 t676, .int .u8 t677, .int .u8 0, .int .i64 0, .int .i64 0, .int .i64 0, .int .u8 0, .int .i64 0]) ?_ 3 _ rfl; (with_reducible repeat (first | refine blk_drewN ?_ _ | refine blk_drew ?_ | refine blk_alloc ?_ _)); refine blk_put (cs := #[.int .u8 t675, .int .u8 t676, .int .u8 0, .int .u8 0, .int .i64 0, .int .i64 0, .int .i64 0, .int .u8 0, .int .i64 0]) ?_ 2 _ rfl; (with_reducible repeat (first | refine blk_drewN ?_ _ | refine blk_drew ?_ | refine blk_alloc ?_ _)); refine blk_put (cs := #[.int .u8 t675, .int .u8 0, .int .u8 0, .int .u8 0, .int .i64 0, .int .i64 0, .int .i64 0, .int .u8 0, .int .i64 0]) ?_ 1 _ rfl; (with_reducible repeat (first | refine blk_drewN ?_ _ | refine blk_drew ?_ | refine blk_alloc ?_ _)); refine blk_put (cs := #[.int .u8 0, .int .u8 0, .int .u8 0, .int .u8 0, .int .i64 0, .int .i64 0, .int .i64 0, .int .u8 0, .int .i64 0]) ?_ 0 _ rfl; (with_reducible repeat (first | refine blk_drewN ?_ _ | refine blk_drew ?_ | refine blk_alloc ?_ _)); exact BK685.out⟩, ⟨by repeat (first | (with_reducible first | exact HB.out | apply below_alloc | apply pw_below_drewN | apply below_drew1 | refine below_set ?_ GE614.out | refine below_set ?_ GE615.out | refine below_set ?_ GE616.out | refine below_set ?_ GE629.out | refine below_set ?_ GE641.out | refine below_set ?_ GE652.out | refine below_set ?_ GE663.out | refine below_set ?_ GE674.out | refine below_set ?_ GE685.out) | exact HB.out)⟩⟩
      · rw [if_neg c79] at H
        have c79b0 : (t651 == 0) = false := beq_eq_false_iff_ne.mpr c79
        have c79b1 : (t651 != 0) = true := bne_iff_ne.mpr c79
        (first | rw [c79b0] | (simp only [i64_w, i32_w]; rw [c79b0]) | skip)
        have H' := Aside0.mk H
        clear H
        go_wp2
        go_meet
        case rel => exact ⟨_, (true), (by first | rfl | (simp; done) | (simp [*]; done)), H', ⟨by first | omega | exact Nat.le_refl _⟩, ⟨by (with_reducible repeat (first | refine blk_drewN ?_ _ | refine blk_drew ?_ | refine blk_alloc ?_ _)); refine blk_far ?_ NB614_685.out _; (with_reducible repeat (first | refine blk_drewN ?_ _ | refine blk_drew ?_ | refine blk_alloc ?_ _)); refine blk_far ?_ NB614_685.out _; (with_reducible repeat (first | refine blk_drewN ?_ _ | refine blk_drew ?_ | refine blk_alloc ?_ _)); refine blk_far ?_ NB614_685.out _; (with_reducible repeat (first | refine blk_drewN ?_ _ | refine blk_drew ?_ | refine blk_alloc ?_ _)); refine blk_far ?_ NB614_685.out _; (with_reducible repeat (first | refine blk_drewN ?_ _ | refine blk_drew ?_ | refine blk_alloc ?_ _)); refine blk_far ?_ NB614_685.out _; (with_reducible repeat (first | refine blk_drewN ?_ _ | refine blk_drew ?_ | refine blk_alloc ?_ _)); refine blk_far ?_ NB614_685.out _; (with_reducible repeat (first | refine blk_drewN ?_ _ | refine blk_drew ?_ | refine blk_alloc ?_ _)); refine blk_far ?_ NB614_685.out _; (with_reducible repeat (first | refine blk_drewN ?_ _ | refine blk_drew ?_ | refine blk_alloc ?_ _)); refine blk_far ?_ NB614_685.out _; (with_reducible repeat (first | refine blk_drewN ?_ _ | refine blk_drew ?_ | refine blk_alloc ?_ _)); refine blk_far ?_ NB614_685.out _; (with_reducible repeat (first | refine blk_drewN ?_ _ | refine blk_drew ?_ | refine blk_alloc ?_ _)); exact BK614.out⟩, ⟨by (with_reducible repeat (first | refine blk_drewN ?_ _ | refine blk_drew ?_ | refine blk_alloc ?_ _)); refine blk_far ?_ NB615_685.out _; (with_reducible repeat (first | refine blk_drewN ?_ _ | refine blk_drew ?_ | refine blk_alloc ?_ _)); refine blk_far ?_ NB615_685.out _; (with_reducible repeat (first | refine blk_drewN ?_ _ | refine blk_drew ?_ | refine blk_alloc ?_ _)); refine blk_far ?_ NB615_685.out _; (with_reducible repeat (first | refine blk_drewN ?_ _ | refine blk_drew ?_ | refine blk_alloc ?_ _)); refine blk_far ?_ NB615_685.out _; (with_reducible repeat (first | refine blk_drewN ?_ _ | refine blk_drew ?_ | refine blk_alloc ?_ _)); refine blk_far ?_ NB615_685.out _; (with_reducible repeat (first | refine blk_drewN ?_ _ | refine blk_drew ?_ | refine blk_alloc ?_ _)); refine blk_far ?_ NB615_685.out _; (with_reducible repeat (first | refine blk_drewN ?_ _ | refine blk_drew ?_ | refine blk_alloc ?_ _)); refine blk_far ?_ NB615_685.out _; (with_reducible repeat (first | refine blk_drewN ?_ _ | refine blk_drew ?_ | refine blk_alloc ?_ _)); refine blk_far ?_ NB615_685.out _; (with_reducible repeat (first | refine blk_drewN ?_ _ | refine blk_drew ?_ | refine blk_alloc ?_ _)); refine blk_far ?_ NB615_685.out _; (with_reducible repeat (first | refine blk_drewN ?_ _ | refine blk_drew ?_ | refine blk_alloc ?_ _)); exact BK615.out⟩, ⟨by (with_reducible repeat (first | refine blk_drewN ?_ _ | refine blk_drew ?_ | refine blk_alloc ?_ _)); refine blk_far ?_ NB616_685.out _; (with_reducible repeat (first | refine blk_drewN ?_ _ | refine blk_drew ?_ | refine blk_alloc ?_ _)); refine blk_far ?_ NB616_685.out _; (with_reducible repeat (first | refine blk_drewN ?_ _ | refine blk_drew ?_ | refine blk_alloc ?_ _)); refine blk_far ?_ NB616_685.out _; (with_reducible repeat (first | refine blk_drewN ?_ _ | refine blk_drew ?_ | refine blk_alloc ?_ _)); refine blk_far ?_ NB616_685.out _; (with_reducible repeat (first | refine blk_drewN ?_ _ | refine blk_drew ?_ | refine blk_alloc ?_ _)); refine blk_far ?_ NB616_685.out _; (with_reducible repeat (first | refine blk_drewN ?_ _ | refine blk_drew ?_ | refine blk_alloc ?_ _)); refine blk_far ?_ NB616_685.out _; (with_reducible repeat (first | refine blk_drewN ?_ _ | refine blk_drew ?_ | refine blk_alloc ?_ _)); refine blk_far ?_ NB616_685.out _; (with_reducible repeat (first | refine blk_drewN ?_ _ | refine blk_drew ?_ | refine blk_alloc ?_ _)); refine blk_far ?_ NB616_685.out _; (with_reducible repeat (first | refine blk_drewN ?_ _ | refine blk_drew ?_ | refine blk_alloc ?_ _)); refine blk_far ?_ NB616_685.out _; (with_reducible repeat (first | refine blk_drewN ?_ _ | refine blk_drew ?_ | refine blk_alloc ?_ _)); exact BK616.out⟩, ⟨by (with_reducible repeat (first | refine blk_drewN ?_ _ | refine blk_drew ?_ | refine blk_alloc ?_ _)); refine blk_far ?_ NB629_685.out _; (with_reducible repeat (first | refine blk_drewN ?_ _ | refine blk_drew ?_ | refine blk_alloc ?_ _)); refine blk_far ?_ NB629_685.out _; (with_reducible repeat (first | refine blk_drewN ?_ _ | refine blk_drew ?_ | refine blk_alloc ?_ _)); refine blk_far ?_ NB629_685.out _; (with_reducible repeat (first | refine blk_drewN ?_ _ | refine blk_drew ?_ | refine blk_alloc ?_ _)); refine blk_far ?_ NB629_685.out _; (with_reducible repeat (first | refine blk_drewN ?_ _ | refine blk_drew ?_ | refine blk_alloc ?_ _)); refine blk_far ?_ NB629_685.out _; (with_reducible repeat (first | refine blk_drewN ?_ _ | refine blk_drew ?_ | refine blk_alloc ?_ _)); refine blk_far ?_ NB629_685.out _; (with_reducible repeat (first | refine blk_drewN ?_ _ | refine blk_drew ?_ | refine blk_alloc ?_ _)); refine blk_far ?_ NB629_685.out _; (with_reducible repeat (first | refine blk_drewN ?_ _ | refine blk_drew ?_ | refine blk_alloc ?_ _)); refine blk_far ?_ NB629_685.out _; (with_reducible repeat (first | refine blk_drewN ?_ _ | refine blk_drew ?_ | refine blk_alloc ?_ _)); refine blk_far ?_ NB629_685.out _; (with_reducible repeat (first | refine blk_drewN ?_ _ | refine blk_drew ?_ | refine blk_alloc ?_ _)); exact BK629.out⟩, ⟨by (with_reducible repeat (first | refine blk_drewN ?_ _ | refine blk_drew ?_ | refine blk_alloc ?_ _)); refine blk_far ?_ NB641_685.out _; (with_reducible repeat (first | refine blk_drewN ?_ _ | refine blk_drew ?_ | refine blk_alloc ?_ _)); refine blk_far ?_ NB641_685.out _; (with_reducible repeat (first | refine blk_drewN ?_ _ | refine blk_drew ?_ | refine blk_alloc ?_ _)); refine blk_far ?_ NB641_685.out _; (with_reducible repeat (first | refine blk_drewN ?_ _ | refine blk_drew ?_ | refine blk_alloc ?_ _)); refine blk_far ?_ NB641_685.out _; (with_reducible repeat (first | refine blk_drewN ?_ _ | refine blk_drew ?_ | refine blk_alloc ?_ _)); refine blk_far ?_ NB641_685.out _; (with_reducible repeat (first | refine blk_drewN ?_ _ | refine blk_drew ?_ | refine blk_alloc ?_ _)); refine blk_far ?_ NB641_685.out _; (with_reducible repeat (first | refine blk_drewN ?_ _ | refine blk_drew ?_ | refine blk_alloc ?_ _)); refine blk_far ?_ NB641_685.out _; (with_reducible repeat (first | refine blk_drewN ?_ _ | refine blk_drew ?_ | refine blk_alloc ?_ _)); refine blk_far ?_ NB641_685.out _; (with_reducible repeat (first | refine blk_drewN ?_ _ | refine blk_drew ?_ | refine blk_alloc ?_ _)); refine blk_far ?_ NB641_685.out _; (with_reducible repeat (first | refine blk_drewN ?_ _ | refine blk_drew ?_ | refine blk_alloc ?_ _)); exact BK641.out⟩, ⟨by (with_reducible repeat (first | refine blk_drewN ?_ _ | refine blk_drew ?_ | refine blk_alloc ?_ _)); refine blk_far ?_ NB652_685.out _; (with_reducible repeat (first | refine blk_drewN ?_ _ | refine blk_drew ?_ | refine blk_alloc ?_ _)); refine blk_far ?_ NB652_685.out _; (with_reducible repeat (first | refine blk_drewN ?_ _ | refine blk_drew ?_ | refine blk_alloc ?_ _)); refine blk_far ?_ NB652_685.out _; (with_reducible repeat (first | refine blk_drewN ?_ _ | refine blk_drew ?_ | refine blk_alloc ?_ _)); refine blk_far ?_ NB652_685.out _; (with_reducible repeat (first | refine blk_drewN ?_ _ | refine blk_drew ?_ | refine blk_alloc ?_ _)); refine blk_far ?_ NB652_685.out _; (with_reducible repeat (first | refine blk_drewN ?_ _ | refine blk_drew ?_ | refine blk_alloc ?_ _)); refine blk_far ?_ NB652_685.out _; (with_reducible repeat (first | refine blk_drewN ?_ _ | refine blk_drew ?_ | refine blk_alloc ?_ _)); refine blk_far ?_ NB652_685.out _; (with_reducible repeat (first | refine blk_drewN ?_ _ | refine blk_drew ?_ | refine blk_alloc ?_ _)); refine blk_far ?_ NB652_685.out _; (with_reducible repeat (first | refine blk_drewN ?_ _ | refine blk_drew ?_ | refine blk_alloc ?_ _)); refine blk_far ?_ NB652_685.out _; (with_reducible repeat (first | refine blk_drewN ?_ _ | refine blk_drew ?_ | refine blk_alloc ?_ _)); exact BK652.out⟩, ⟨by (with_reducible repeat (first | refine blk_drewN ?_ _ | refine blk_drew ?_ | refine blk_alloc ?_ _)); refine blk_far ?_ NB663_685.out _; (with_reducible repeat (first | refine blk_drewN ?_ _ | refine blk_drew ?_ | refine blk_alloc ?_ _)); refine blk_far ?_ NB663_685.out _; (with_reducible repeat (first | refine blk_drewN ?_ _ | refine blk_drew ?_ | refine blk_alloc ?_ _)); refine blk_far ?_ NB663_685.out _; (with_reducible repeat (first | refine blk_drewN ?_ _ | refine blk_drew ?_ | refine blk_alloc ?_ _)); refine blk_far ?_ NB663_685.out _; (with_reducible repeat (first | refine blk_drewN ?_ _ | refine blk_drew ?_ | refine blk_alloc ?_ _)); refine blk_far ?_ NB663_685.out _; (with_reducible repeat (first | refine blk_drewN ?_ _ | refine blk_drew ?_ | refine blk_alloc ?_ _)); refine blk_far ?_ NB663_685.out _; (with_reducible repeat (first | refine blk_drewN ?_ _ | refine blk_drew ?_ | refine blk_alloc ?_ _)); refine blk_far ?_ NB663_685.out _; (with_reducible repeat (first | refine blk_drewN ?_ _ | refine blk_drew ?_ | refine blk_alloc ?_ _)); refine blk_far ?_ NB663_685.out _; (with_reducible repeat (first | refine blk_drewN ?_ _ | refine blk_drew ?_ | refine blk_alloc ?_ _)); refine blk_far ?_ NB663_685.out _; (with_reducible repeat (first | refine blk_drewN ?_ _ | refine blk_drew ?_ | refine blk_alloc ?_ _)); exact BK663.out⟩, ⟨by (with_reducible repeat (first | refine blk_drewN ?_ _ | refine blk_drew ?_ | refine blk_alloc ?_ _)); refine blk_far ?_ NB674_685.out _; (with_reducible repeat (first | refine blk_drewN ?_ _ | refine blk_drew ?_ | refine blk_alloc ?_ _)); refine blk_far ?_ NB674_685.out _; (with_reducible repeat (first | refine blk_drewN ?_ _ | refine blk_drew ?_ | refine blk_alloc ?_ _)); refine blk_far ?_ NB674_685.out _; (with_reducible repeat (first | refine blk_drewN ?_ _ | refine blk_drew ?_ | refine blk_alloc ?_ _)); refine blk_far ?_ NB674_685.out _; (with_reducible repeat (first | refine blk_drewN ?_ _ | refine blk_drew ?_ | refine blk_alloc ?_ _)); refine blk_far ?_ NB674_685.out _; (with_reducible repeat (first | refine blk_drewN ?_ _ | refine blk_drew ?_ | refine blk_alloc ?_ _)); refine blk_far ?_ NB674_685.out _; (with_reducible repeat (first | refine blk_drewN ?_ _ | refine blk_drew ?_ | refine blk_alloc ?_ _)); refine blk_far ?_ NB674_685.out _; (with_reducible repeat (first | refine blk_drewN ?_ _ | refine blk_drew ?_ | refine blk_alloc ?_ _)); refine blk_far ?_ NB674_685.out _; (with_reducible repeat (first | refine blk_drewN ?_ _ | refine blk_drew ?_ | refine blk_alloc ?_ _)); refine blk_far ?_ NB674_685.out _; (with_reducible repeat (first | refine blk_drewN ?_ _ | refine blk_drew ?_ | refine blk_alloc ?_ _)); exact BK674.out⟩, ⟨by (with_reducible repeat (first | refine blk_drewN ?_ _ | refine blk_drew ?_ | refine blk_alloc ?_ _)); refine blk_put (cs := #[.int .u8 t675, .int .u8 t676, .int .u8 t677, .int .u8 t678, .int .i64 t679, .int .i64 t680, .int .i64 t681, .int .u8 t682, .int .i64 0]) ?_ 8 _ rfl; (with_reducible repeat (first | refine blk_drewN ?_ _ | refine blk_drew ?_ | refine blk_alloc ?_ _)); refine blk_put (cs := #[.int .u8 t675, .int .u8 t676, .int .u8 t677, .int .u8 t678, .int .i64 t679, .int .i64 t680, .int .i64 t681, .int .u8 0, .int .i64 0]) ?_ 7 _ rfl; (with_reducible repeat (first | refine blk_drewN ?_ _ | refine blk_drew ?_ | refine blk_alloc ?_ _)); refine blk_put (cs := #[.int .u8 t675, .int .u8 t676, .int .u8 t677, .int .u8 t678, .int .i64 t679, .int .i64 t680, .int .i64 0, .int .u8 0, .int .i64 0]) ?_ 6 _ rfl; (with_reducible repeat (first | refine blk_drewN ?_ _ | refine blk_drew ?_ | refine blk_alloc ?_ _)); refine blk_put (cs := #[.int .u8 t675, .int .u8 t676, .int .u8 t677, .int .u8 t678, .int .i64 t679, .int .i64 0, .int .i64 0, .int .u8 0, .int .i64 0]) ?_ 5 _ rfl; (with_reducible repeat (first | refine blk_drewN ?_ _ | refine blk_drew ?_ | refine blk_alloc ?_ _)); refine blk_put (cs := #[.int .u8 t675, .int .u8 t676, .int .u8 t677, .int .u8 t678, .int .i64 0, .int .i64 0, .int .i64 0, .int .u8 0, .int .i64 0]) ?_ 4 _ rfl; (with_reducible repeat (first | refine blk_drewN ?_ _ | refine blk_drew ?_ | refine blk_alloc ?_ _)); refine blk_put (cs := #[.int .u8 t675, .int .u8 t676, .int .u8 t677, .int .u8 0, .int .i64 0, .int .i64 0, .int .i64 0, .int .u8 0, .int .i64 0]) ?_ 3 _ rfl; (with_reducible repeat (first | refine blk_drewN ?_ _ | refine blk_drew ?_ | refine blk_alloc ?_ _)); refine blk_put (cs := #[.int .u8 t675, .int .u8 t676, .int .u8 0, .int .u8 0, .int .i64 0, .int .i64 0, .int .i64 0, .int .u8 0, .int .i64 0]) ?_ 2 _ rfl; (with_reducible repeat (first | refine blk_drewN ?_ _ | refine blk_drew ?_ | refine blk_alloc ?_ _)); refine blk_put (cs := #[.int .u8 t675, .int .u8 0, .int .u8 0, .int .u8 0, .int .i64 0, .int .i64 0, .int .i64 0, .int .u8 0, .int .i64 0]) ?_ 1 _ rfl; (with_reducible repeat (first | refine blk_drewN ?_ _ | refine blk_drew ?_ | refine blk_alloc ?_ _)); refine blk_put (cs := #[.int .u8 0, .int .u8 0, .int .u8 0, .int .u8 0, .int .i64 0, .int .i64 0, .int .i64 0, .int .u8 0, .int .i64 0]) ?_ 0 _ rfl; (with_reducible repeat (first | refine blk_drewN ?_ _ | refine blk_drew ?_ | refine blk_alloc ?_ _)); exact BK685.out⟩, ⟨by repeat (first | (with_reducible first | exact HB.out | apply below_alloc | apply pw_below_drewN | apply below_drew1 | refine below_set ?_ GE614.out | refine below_set ?_ GE615.out | refine below_set ?_ GE616.out | refine below_set ?_ GE629.out | refine below_set ?_ GE641.out | refine below_set ?_ GE652.out | refine below_set ?_ GE663.out | refine below_set ?_ GE674.out | refine below_set ?_ GE685.out) | exact HB.out)⟩⟩
    case rest =>
      clear HC11
      try clear c1
      try clear c2
      try clear p2
      try clear c3
      try clear c4
      try clear c4b0
      try clear c4b1
      try clear c5
      try clear c6
      try clear c7
      try clear c12
      try clear c14
      try clear c15
      try clear c16
      try clear c18
      try clear c22
      try clear c23
      try clear c24
      try clear c30
      try clear c31
      try clear c32
      try clear c33
      try clear c39
      try clear c40
      try clear c41
      try clear c42
      try clear c43
      try clear c48
      try clear c49
      try clear c50
      try clear c51
      try clear c52
      try clear c53
      try clear c59
      try clear c60
      try clear c61
      try clear c62
      try clear c63
      try clear c64
      try clear c65
      try clear c70
      try clear c71
      try clear c72
      try clear c73
      try clear c74
      try clear c75
      try clear c76
      try clear c77
      try clear c79
      try clear c79b0
      try clear c79b1
      try clear hcz17_0
      try clear hcz17_1
      try clear hcz17_2
      try clear hcz17_3
      try clear hcz17_4
      try clear hcz17_5
      try clear hcz17_6
      try clear hcz17_7
      try clear hcz17_8
      try clear hcz17_9
      try clear hcz19_0
      try clear hcz19_1
      try clear hcz19_2
      try clear hcz19_3
      try clear hcz19_4
      try clear hcz19_5
      try clear hcz19_6
      try clear hcz19_7
      try clear hcz19_8
      try clear hcz19_9
      try clear hcz25_0
      try clear hcz25_1
      try clear hcz25_2
      try clear hcz25_3
      try clear hcz25_4
      try clear hcz25_5
      try clear hcz25_6
      try clear hcz25_7
      try clear hcz25_8
      try clear hcz25_9
      try clear hcz26_0
      try clear hcz26_1
      try clear hcz26_2
      try clear hcz26_3
      try clear hcz26_4
      try clear hcz26_5
      try clear hcz26_6
      try clear hcz26_7
      try clear hcz26_8
      try clear hcz26_9
      try clear hcz27_0
      try clear hcz27_1
      try clear hcz27_2
      try clear hcz27_3
      try clear hcz27_4
      try clear hcz27_5
      try clear hcz27_6
      try clear hcz27_7
      try clear hcz27_8
      try clear hcz27_9
      try clear hcz34_0
      try clear hcz34_1
      try clear hcz34_2
      try clear hcz34_3
      try clear hcz34_4
      try clear hcz34_5
      try clear hcz34_6
      try clear hcz34_7
      try clear hcz34_8
      try clear hcz34_9
      try clear hcz35_0
      try clear hcz35_1
      try clear hcz35_2
      try clear hcz35_3
      try clear hcz35_4
      try clear hcz35_5
      try clear hcz35_6
      try clear hcz35_7
      try clear hcz35_8
      try clear hcz36_0
      try clear hcz36_1
      try clear hcz36_2
      try clear hcz36_3
      try clear hcz36_4
      try clear hcz36_5
      try clear hcz36_6
      try clear hcz36_7
      try clear hcz36_8
      try clear hcz36_9
      try clear hcz44_0
      try clear hcz44_1
      try clear hcz44_2
      try clear hcz44_3
      try clear hcz44_4
      try clear hcz44_5
      try clear hcz44_6
      try clear hcz44_7
      try clear hcz44_8
      try clear hcz45_0
      try clear hcz45_1
      try clear hcz45_2
      try clear hcz45_3
      try clear hcz45_4
      try clear hcz45_5
      try clear hcz45_6
      try clear hcz45_7
      try clear hcz45_8
      try clear hcz45_9
      try clear hcz54_0
      try clear hcz54_1
      try clear hcz54_2
      try clear hcz54_3
      try clear hcz54_4
      try clear hcz54_5
      try clear hcz54_6
      try clear hcz54_7
      try clear hcz54_8
      try clear hcz55_0
      try clear hcz55_1
      try clear hcz55_2
      try clear hcz55_3
      try clear hcz55_4
      try clear hcz55_5
      try clear hcz55_6
      try clear hcz55_7
      try clear hcz55_8
      try clear hcz56_0
      try clear hcz56_1
      try clear hcz56_2
      try clear hcz56_3
      try clear hcz56_4
      try clear hcz56_5
      try clear hcz56_6
      try clear hcz56_7
      try clear hcz56_8
      try clear hcz56_9
      try clear hcz66_0
      try clear hcz66_1
      try clear hcz66_2
      try clear hcz66_3
      try clear hcz66_4
      try clear hcz66_5
      try clear hcz66_6
      try clear hcz66_7
      try clear hcz66_8
      try clear hcz67_0
      try clear hcz67_1
      try clear hcz67_2
      try clear hcz67_3
      try clear hcz67_4
      try clear hcz67_5
      try clear hcz67_6
      try clear hcz67_7
      try clear hcz67_8
      try clear hcz67_9
      try clear hcz78_0
      try clear hcz78_1
      try clear hcz78_2
      try clear hcz78_3
      try clear hcz78_4
      try clear hcz78_5
      try clear hcz78_6
      try clear hcz78_7
      try clear hcz78_8
      try clear hfz17_0
      try clear hfz17_1
      try clear hfz17_2
      try clear hfz17_3
      try clear hfz17_4
      try clear hfz17_5
      try clear hfz17_6
      try clear hfz17_7
      try clear hfz17_8
      try clear hfz17_9
      try clear hfz19_0
      try clear hfz19_1
      try clear hfz19_2
      try clear hfz19_3
      try clear hfz19_4
      try clear hfz19_5
      try clear hfz19_6
      try clear hfz19_7
      try clear hfz19_8
      try clear hfz19_9
      try clear hfz25_0
      try clear hfz25_1
      try clear hfz25_2
      try clear hfz25_3
      try clear hfz25_4
      try clear hfz25_5
      try clear hfz25_6
      try clear hfz25_7
      try clear hfz25_8
      try clear hfz25_9
      try clear hfz26_0
      try clear hfz26_1
      try clear hfz26_2
      try clear hfz26_3
      try clear hfz26_4
      try clear hfz26_5
      try clear hfz26_6
      try clear hfz26_7
      try clear hfz26_8
      try clear hfz26_9
      try clear hfz27_0
      try clear hfz27_1
      try clear hfz27_2
      try clear hfz27_3
      try clear hfz27_4
      try clear hfz27_5
      try clear hfz27_6
      try clear hfz27_7
      try clear hfz27_8
      try clear hfz27_9
      try clear hfz34_0
      try clear hfz34_1
      try clear hfz34_2
      try clear hfz34_3
      try clear hfz34_4
      try clear hfz34_5
      try clear hfz34_6
      try clear hfz34_7
      try clear hfz34_8
      try clear hfz34_9
      try clear hfz35_0
      try clear hfz35_1
      try clear hfz35_2
      try clear hfz35_3
      try clear hfz35_4
      try clear hfz35_5
      try clear hfz35_6
      try clear hfz35_7
      try clear hfz35_8
      try clear hfz36_0
      try clear hfz36_1
      try clear hfz36_2
      try clear hfz36_3
      try clear hfz36_4
      try clear hfz36_5
      try clear hfz36_6
      try clear hfz36_7
      try clear hfz36_8
      try clear hfz36_9
      try clear hfz44_0
      try clear hfz44_1
      try clear hfz44_2
      try clear hfz44_3
      try clear hfz44_4
      try clear hfz44_5
      try clear hfz44_6
      try clear hfz44_7
      try clear hfz44_8
      try clear hfz45_0
      try clear hfz45_1
      try clear hfz45_2
      try clear hfz45_3
      try clear hfz45_4
      try clear hfz45_5
      try clear hfz45_6
      try clear hfz45_7
      try clear hfz45_8
      try clear hfz45_9
      try clear hfz54_0
      try clear hfz54_1
      try clear hfz54_2
      try clear hfz54_3
      try clear hfz54_4
      try clear hfz54_5
      try clear hfz54_6
      try clear hfz54_7
      try clear hfz54_8
      try clear hfz55_0
      try clear hfz55_1
      try clear hfz55_2
      try clear hfz55_3
      try clear hfz55_4
      try clear hfz55_5
      try clear hfz55_6
      try clear hfz55_7
      try clear hfz55_8
      try clear hfz56_0
      try clear hfz56_1
      try clear hfz56_2
      try clear hfz56_3
      try clear hfz56_4
      try clear hfz56_5
      try clear hfz56_6
      try clear hfz56_7
      try clear hfz56_8
      try clear hfz56_9
      try clear hfz66_0
      try clear hfz66_1
      try clear hfz66_2
      try clear hfz66_3
      try clear hfz66_4
      try clear hfz66_5
      try clear hfz66_6
      try clear hfz66_7
      try clear hfz66_8
      try clear hfz67_0
      try clear hfz67_1
      try clear hfz67_2
      try clear hfz67_3
      try clear hfz67_4
      try clear hfz67_5
      try clear hfz67_6
      try clear hfz67_7
      try clear hfz67_8
      try clear hfz67_9
      try clear hfz78_0
      try clear hfz78_1
      try clear hfz78_2
      try clear hfz78_3
      try clear hfz78_4
      try clear hfz78_5
      try clear hfz78_6
      try clear hfz78_7
      try clear hfz78_8
      obtain ⟨kq, x67_10, rfl, HA, HJ10, BK614, BK615, BK616, BK629, BK641, BK652, BK663, BK674, BK685, HB⟩ := hcut
      cases kq with
      | zero => exact absurd HA.out (by simp [stickfullaw06_StyleApart.j0])
      | succ kj10 =>
        have H := HA.out
        clear HA
        simp only [stickfullaw06_StyleApart.j0] at H
        by_cases c80 : x67_10 = true
        · subst c80
          have H1 : (if (t618 == t630 && ((t619 == t631 && (t620 == t632 && (t621 == t633 && (t622 == t634 && (t623 == t635 && (t624 == t636 && (t625 == t637 && (t626 == t638 && (t627 == t639))))))))))) = true then (if t628 = t640 then ((stickfullaw06_head.f kj10).bind fun t686 => (some t686)) else (some false)) else (some false)) = some r := by rw [if_pos rfl] at H; exact H
          clear H
          have H := H1
          clear H1
          by_cases c81 : (t618 == t630 && ((t619 == t631 && (t620 == t632 && (t621 == t633 && (t622 == t634 && (t623 == t635 && (t624 == t636 && (t625 == t637 && (t626 == t638 && (t627 == t639))))))))))) = true
          · rw [if_pos c81] at H
            have c81b0 : (t618 == t630 && ((t619 == t631 && (t620 == t632 && (t621 == t633 && (t622 == t634 && (t623 == t635 && (t624 == t636 && (t625 == t637 && (t626 == t638 && (t627 == t639))))))))))) = true := c81
            (try (have c81b1 : decide (t618 = t630 && ((t619 == t631 && (t620 == t632 && (t621 == t633 && (t622 == t634 && (t623 == t635 && (t624 == t636 && (t625 == t637 && (t626 == t638 && (t627 == t639))))))))))) = true := by simpa using c81))
            (try (have c81b2 : (t618 == t630 && ((t619 == t631 && (t620 == t632 && (t621 == t633 && (t622 == t634 && (t623 == t635 && (t624 == t636 && (t625 == t637 && (t626 == t638 && (t627 == t639))))))))))) = true := by simpa using c81))
            clear c81
            by_cases c82 : t628 = t640
            · rw [if_pos c82] at H
              have c82b0 : (t628 == t640) = true := beq_iff_eq.mpr c82
              have c82b1 : (t628 != t640) = false := bne_eq_false_iff_eq.mpr c82
              clear c82
              replace H := Option.bind_eq_some_iff.mp H
              obtain ⟨t686, A830, H⟩ := H
              replace H : (some t686) = some r := H
              have A83 := Aside0.mk A830
              clear A830
              obtain rfl := Option.some.inj H
              have hnb84 := NB629_614.out
              have hnc84 := NB614_629.out
              have hnb85 := NB629_615.out
              have hnc85 := NB615_629.out
              have hnb86 := NB629_616.out
              have hnc86 := NB616_629.out
              have hnb87 := NB629_641.out
              have hnc87 := NB641_629.out
              have hnb88 := NB629_652.out
              have hnc88 := NB652_629.out
              have hnb89 := NB629_663.out
              have hnc89 := NB663_629.out
              have hnb90 := NB629_674.out
              have hnc90 := NB674_629.out
              have hnb91 := NB629_685.out
              have hnc91 := NB685_629.out
              obtain ⟨hcz92_0, hcz92_1, hcz92_2, hcz92_3, hcz92_4, hcz92_5, hcz92_6, hcz92_7, hcz92_8, hcz92_9⟩ := cz10 BK629
              obtain ⟨hfz92_0, hfz92_1, hfz92_2, hfz92_3, hfz92_4, hfz92_5, hfz92_6, hfz92_7, hfz92_8, hfz92_9⟩ := fz10 BK629
              have hnb93 := NB641_614.out
              have hnc93 := NB614_641.out
              have hnb94 := NB641_615.out
              have hnc94 := NB615_641.out
              have hnb95 := NB641_616.out
              have hnc95 := NB616_641.out
              have hnb96 := NB641_652.out
              have hnc96 := NB652_641.out
              have hnb97 := NB641_663.out
              have hnc97 := NB663_641.out
              have hnb98 := NB641_674.out
              have hnc98 := NB674_641.out
              have hnb99 := NB641_685.out
              have hnc99 := NB685_641.out
              obtain ⟨hcz100_0, hcz100_1, hcz100_2, hcz100_3, hcz100_4, hcz100_5, hcz100_6, hcz100_7, hcz100_8, hcz100_9⟩ := cz10 BK641
              obtain ⟨hfz100_0, hfz100_1, hfz100_2, hfz100_3, hfz100_4, hfz100_5, hfz100_6, hfz100_7, hfz100_8, hfz100_9⟩ := fz10 BK641
              go_wp2_with (first | (go_at_call 22; (with_reducible refine (stickfullaw06_head.calls kj10  t686 _ A83.out).mono ?_); rintro e w101 ⟨rfl, hb⟩; replace BK614 := bb BK614 hb; replace BK615 := bb BK615 hb; replace BK616 := bb BK616 hb; replace BK629 := bb BK629 hb; replace BK641 := bb BK641 hb; replace BK652 := bb BK652 hb; replace BK663 := bb BK663 hb; replace BK674 := bb BK674 hb; replace BK685 := bb BK685 hb; replace HB := bh HB hb; (try clear hb); (try clear hb2); (try clear hk); (try clear hi)))
              go_ret
              exact ⟨by first | rfl | (simp [errW_none, errW_some] <;> rfl) | (simp [*, errW_none, errW_some] <;> rfl), by repeat (first | (with_reducible first | exact HB.out | apply below_alloc | apply pw_below_drewN | apply below_drew1 | refine below_set ?_ GE614.out | refine below_set ?_ GE615.out | refine below_set ?_ GE616.out | refine below_set ?_ GE629.out | refine below_set ?_ GE641.out | refine below_set ?_ GE652.out | refine below_set ?_ GE663.out | refine below_set ?_ GE674.out | refine below_set ?_ GE685.out) | exact HB.out)⟩
            · rw [if_neg c82] at H
              have c82b0 : (t628 == t640) = false := beq_eq_false_iff_ne.mpr c82
              have c82b1 : (t628 != t640) = true := bne_iff_ne.mpr c82
              exact absurd ((Option.some.inj H).trans HR_.out) (by decide)
          · rw [if_neg c81] at H
            have c81b0 : (t618 == t630 && ((t619 == t631 && (t620 == t632 && (t621 == t633 && (t622 == t634 && (t623 == t635 && (t624 == t636 && (t625 == t637 && (t626 == t638 && (t627 == t639))))))))))) = false := by simpa using c81
            (try (have c81b1 : decide (t618 = t630 && ((t619 == t631 && (t620 == t632 && (t621 == t633 && (t622 == t634 && (t623 == t635 && (t624 == t636 && (t625 == t637 && (t626 == t638 && (t627 == t639))))))))))) = false := by simpa using c81))
            (try (have c81b2 : (t618 == t630 && ((t619 == t631 && (t620 == t632 && (t621 == t633 && (t622 == t634 && (t623 == t635 && (t624 == t636 && (t625 == t637 && (t626 == t638 && (t627 == t639))))))))))) = false := by simpa using c81))
            (try (have c81b3 : ¬ (t618 = t630 && ((t619 == t631 && (t620 == t632 && (t621 == t633 && (t622 == t634 && (t623 == t635 && (t624 == t636 && (t625 == t637 && (t626 == t638 && (t627 == t639))))))))))) := by simpa using c81))
            clear c81
            exact absurd ((Option.some.inj H).trans HR_.out) (by decide)
        · replace c80 := Bool.eq_false_iff.mpr c80
          subst c80
          have H1 : (if (t618 == t630 && ((t619 == t631 && (t620 == t632 && (t621 == t633 && (t622 == t634 && (t623 == t635 && (t624 == t636 && (t625 == t637 && (t626 == t638 && (t627 == t639))))))))))) = true then (if t628 = 0 then (if t640 = 0 then (if t662 = 0 then (if t684 = 0 then (if (t653 == t675 && (t654 == t676 && (t655 == t677 && (t656 == t678 && (t657 == t679 && (t658 == t680 && (t659 == t681 && (t660 == t682 && (t661 == t683))))))))) = true then ((stickfullaw06_head.f kj10).bind fun t687 => (some t687)) else (some false)) else (some false)) else (some false)) else (some false)) else (some false)) else (some false)) = some r := by rw [if_neg (show ¬ (false = true) by decide)] at H; exact H
          clear H
          have H := H1
          clear H1
          by_cases c102 : (t618 == t630 && ((t619 == t631 && (t620 == t632 && (t621 == t633 && (t622 == t634 && (t623 == t635 && (t624 == t636 && (t625 == t637 && (t626 == t638 && (t627 == t639))))))))))) = true
          · rw [if_pos c102] at H
            have c102b0 : (t618 == t630 && ((t619 == t631 && (t620 == t632 && (t621 == t633 && (t622 == t634 && (t623 == t635 && (t624 == t636 && (t625 == t637 && (t626 == t638 && (t627 == t639))))))))))) = true := c102
            (try (have c102b1 : decide (t618 = t630 && ((t619 == t631 && (t620 == t632 && (t621 == t633 && (t622 == t634 && (t623 == t635 && (t624 == t636 && (t625 == t637 && (t626 == t638 && (t627 == t639))))))))))) = true := by simpa using c102))
            (try (have c102b2 : (t618 == t630 && ((t619 == t631 && (t620 == t632 && (t621 == t633 && (t622 == t634 && (t623 == t635 && (t624 == t636 && (t625 == t637 && (t626 == t638 && (t627 == t639))))))))))) = true := by simpa using c102))
            clear c102
            by_cases c103 : t628 = 0
            · rw [if_pos c103] at H
              have c103b0 : (t628 == 0) = true := beq_iff_eq.mpr c103
              have c103b1 : (t628 != 0) = false := bne_eq_false_iff_eq.mpr c103
              clear c103
              by_cases c104 : t640 = 0
              · rw [if_pos c104] at H
                have c104b0 : (t640 == 0) = true := beq_iff_eq.mpr c104
                have c104b1 : (t640 != 0) = false := bne_eq_false_iff_eq.mpr c104
                clear c104
                by_cases c105 : t662 = 0
                · rw [if_pos c105] at H
                  have c105b0 : (t662 == 0) = true := beq_iff_eq.mpr c105
                  have c105b1 : (t662 != 0) = false := bne_eq_false_iff_eq.mpr c105
                  clear c105
                  by_cases c106 : t684 = 0
                  · rw [if_pos c106] at H
                    have c106b0 : (t684 == 0) = true := beq_iff_eq.mpr c106
                    have c106b1 : (t684 != 0) = false := bne_eq_false_iff_eq.mpr c106
                    clear c106
                    by_cases c107 : (t653 == t675 && (t654 == t676 && (t655 == t677 && (t656 == t678 && (t657 == t679 && (t658 == t680 && (t659 == t681 && (t660 == t682 && (t661 == t683))))))))) = true
                    · rw [if_pos c107] at H
                      have c107b0 : (t653 == t675 && (t654 == t676 && (t655 == t677 && (t656 == t678 && (t657 == t679 && (t658 == t680 && (t659 == t681 && (t660 == t682 && (t661 == t683))))))))) = true := c107
                      (try (have c107b1 : decide (t653 = t675 && (t654 == t676 && (t655 == t677 && (t656 == t678 && (t657 == t679 && (t658 == t680 && (t659 == t681 && (t660 == t682 && (t661 == t683))))))))) = true := by simpa using c107))
                      (try (have c107b2 : (t653 == t675 && (t654 == t676 && (t655 == t677 && (t656 == t678 && (t657 == t679 && (t658 == t680 && (t659 == t681 && (t660 == t682 && (t661 == t683))))))))) = true := by simpa using c107))
                      clear c107
                      replace H := Option.bind_eq_some_iff.mp H
                      obtain ⟨t687, A1080, H⟩ := H
                      replace H : (some t687) = some r := H
                      have A108 := Aside0.mk A1080
                      clear A1080
                      obtain rfl := Option.some.inj H
                      have hnb109 := NB629_614.out
                      have hnc109 := NB614_629.out
                      have hnb110 := NB629_615.out
                      have hnc110 := NB615_629.out
                      have hnb111 := NB629_616.out
                      have hnc111 := NB616_629.out
                      have hnb112 := NB629_641.out
                      have hnc112 := NB641_629.out
                      have hnb113 := NB629_652.out
                      have hnc113 := NB652_629.out
                      have hnb114 := NB629_663.out
                      have hnc114 := NB663_629.out
                      have hnb115 := NB629_674.out
                      have hnc115 := NB674_629.out
                      have hnb116 := NB629_685.out
                      have hnc116 := NB685_629.out
                      obtain ⟨hcz117_0, hcz117_1, hcz117_2, hcz117_3, hcz117_4, hcz117_5, hcz117_6, hcz117_7, hcz117_8, hcz117_9⟩ := cz10 BK629
                      obtain ⟨hfz117_0, hfz117_1, hfz117_2, hfz117_3, hfz117_4, hfz117_5, hfz117_6, hfz117_7, hfz117_8, hfz117_9⟩ := fz10 BK629
                      have hnb118 := NB641_614.out
                      have hnc118 := NB614_641.out
                      have hnb119 := NB641_615.out
                      have hnc119 := NB615_641.out
                      have hnb120 := NB641_616.out
                      have hnc120 := NB616_641.out
                      have hnb121 := NB641_652.out
                      have hnc121 := NB652_641.out
                      have hnb122 := NB641_663.out
                      have hnc122 := NB663_641.out
                      have hnb123 := NB641_674.out
                      have hnc123 := NB674_641.out
                      have hnb124 := NB641_685.out
                      have hnc124 := NB685_641.out
                      obtain ⟨hcz125_0, hcz125_1, hcz125_2, hcz125_3, hcz125_4, hcz125_5, hcz125_6, hcz125_7, hcz125_8, hcz125_9⟩ := cz10 BK641
                      obtain ⟨hfz125_0, hfz125_1, hfz125_2, hfz125_3, hfz125_4, hfz125_5, hfz125_6, hfz125_7, hfz125_8, hfz125_9⟩ := fz10 BK641
                      have hnb126 := NB663_614.out
                      have hnc126 := NB614_663.out
                      have hnb127 := NB663_615.out
                      have hnc127 := NB615_663.out
                      have hnb128 := NB663_616.out
                      have hnc128 := NB616_663.out
                      have hnb129 := NB663_652.out
                      have hnc129 := NB652_663.out
                      have hnb130 := NB663_674.out
                      have hnc130 := NB674_663.out
                      have hnb131 := NB663_685.out
                      have hnc131 := NB685_663.out
                      obtain ⟨hcz132_0, hcz132_1, hcz132_2, hcz132_3, hcz132_4, hcz132_5, hcz132_6, hcz132_7, hcz132_8⟩ := cz9 BK663
                      obtain ⟨hfz132_0, hfz132_1, hfz132_2, hfz132_3, hfz132_4, hfz132_5, hfz132_6, hfz132_7, hfz132_8⟩ := fz9 BK663
                      have hnb133 := NB685_614.out
                      have hnc133 := NB614_685.out
                      have hnb134 := NB685_615.out
                      have hnc134 := NB615_685.out
                      have hnb135 := NB685_616.out
                      have hnc135 := NB616_685.out
                      have hnb136 := NB685_652.out
                      have hnc136 := NB652_685.out
                      have hnb137 := NB685_674.out
                      have hnc137 := NB674_685.out
                      obtain ⟨hcz138_0, hcz138_1, hcz138_2, hcz138_3, hcz138_4, hcz138_5, hcz138_6, hcz138_7, hcz138_8⟩ := cz9 BK685
                      obtain ⟨hfz138_0, hfz138_1, hfz138_2, hfz138_3, hfz138_4, hfz138_5, hfz138_6, hfz138_7, hfz138_8⟩ := fz9 BK685
                      go_wp2_with (first | (go_at_call 22; (with_reducible refine (stickfullaw06_head.calls kj10  t687 _ A108.out).mono ?_); rintro e w139 ⟨rfl, hb⟩; replace BK614 := bb BK614 hb; replace BK615 := bb BK615 hb; replace BK616 := bb BK616 hb; replace BK629 := bb BK629 hb; replace BK641 := bb BK641 hb; replace BK652 := bb BK652 hb; replace BK663 := bb BK663 hb; replace BK674 := bb BK674 hb; replace BK685 := bb BK685 hb; replace HB := bh HB hb; (try clear hb); (try clear hb2); (try clear hk); (try clear hi)))
                      go_ret
                      exact ⟨by first | rfl | (simp [errW_none, errW_some] <;> rfl) | (simp [*, errW_none, errW_some] <;> rfl), by repeat (first | (with_reducible first | exact HB.out | apply below_alloc | apply pw_below_drewN | apply below_drew1 | refine below_set ?_ GE614.out | refine below_set ?_ GE615.out | refine below_set ?_ GE616.out | refine below_set ?_ GE629.out | refine below_set ?_ GE641.out | refine below_set ?_ GE652.out | refine below_set ?_ GE663.out | refine below_set ?_ GE674.out | refine below_set ?_ GE685.out) | exact HB.out)⟩
                    · rw [if_neg c107] at H
                      have c107b0 : (t653 == t675 && (t654 == t676 && (t655 == t677 && (t656 == t678 && (t657 == t679 && (t658 == t680 && (t659 == t681 && (t660 == t682 && (t661 == t683))))))))) = false := by simpa using c107
                      (try (have c107b1 : decide (t653 = t675 && (t654 == t676 && (t655 == t677 && (t656 == t678 && (t657 == t679 && (t658 == t680 && (t659 == t681 && (t660 == t682 && (t661 == t683))))))))) = false := by simpa using c107))
                      (try (have c107b2 : (t653 == t675 && (t654 == t676 && (t655 == t677 && (t656 == t678 && (t657 == t679 && (t658 == t680 && (t659 == t681 && (t660 == t682 && (t661 == t683))))))))) = false := by simpa using c107))
                      (try (have c107b3 : ¬ (t653 = t675 && (t654 == t676 && (t655 == t677 && (t656 == t678 && (t657 == t679 && (t658 == t680 && (t659 == t681 && (t660 == t682 && (t661 == t683))))))))) := by simpa using c107))
                      clear c107
                      exact absurd ((Option.some.inj H).trans HR_.out) (by decide)
                  · rw [if_neg c106] at H
                    have c106b0 : (t684 == 0) = false := beq_eq_false_iff_ne.mpr c106
                    have c106b1 : (t684 != 0) = true := bne_iff_ne.mpr c106
                    exact absurd ((Option.some.inj H).trans HR_.out) (by decide)
                · rw [if_neg c105] at H
                  have c105b0 : (t662 == 0) = false := beq_eq_false_iff_ne.mpr c105
                  have c105b1 : (t662 != 0) = true := bne_iff_ne.mpr c105
                  exact absurd ((Option.some.inj H).trans HR_.out) (by decide)
              · rw [if_neg c104] at H
                have c104b0 : (t640 == 0) = false := beq_eq_false_iff_ne.mpr c104
                have c104b1 : (t640 != 0) = true := bne_iff_ne.mpr c104
                exact absurd ((Option.some.inj H).trans HR_.out) (by decide)
            · rw [if_neg c103] at H
              have c103b0 : (t628 == 0) = false := beq_eq_false_iff_ne.mpr c103
              have c103b1 : (t628 != 0) = true := bne_iff_ne.mpr c103
              exact absurd ((Option.some.inj H).trans HR_.out) (by decide)
          · rw [if_neg c102] at H
            have c102b0 : (t618 == t630 && ((t619 == t631 && (t620 == t632 && (t621 == t633 && (t622 == t634 && (t623 == t635 && (t624 == t636 && (t625 == t637 && (t626 == t638 && (t627 == t639))))))))))) = false := by simpa using c102
            (try (have c102b1 : decide (t618 = t630 && ((t619 == t631 && (t620 == t632 && (t621 == t633 && (t622 == t634 && (t623 == t635 && (t624 == t636 && (t625 == t637 && (t626 == t638 && (t627 == t639))))))))))) = false := by simpa using c102))
            (try (have c102b2 : (t618 == t630 && ((t619 == t631 && (t620 == t632 && (t621 == t633 && (t622 == t634 && (t623 == t635 && (t624 == t636 && (t625 == t637 && (t626 == t638 && (t627 == t639))))))))))) = false := by simpa using c102))
            (try (have c102b3 : ¬ (t618 = t630 && ((t619 == t631 && (t620 == t632 && (t621 == t633 && (t622 == t634 && (t623 == t635 && (t624 == t636 && (t625 == t637 && (t626 == t638 && (t627 == t639))))))))))) := by simpa using c102))
            clear c102
            exact absurd ((Option.some.inj H).trans HR_.out) (by decide)
  · rw [if_neg c4] at H
    have c4b0 : ((Go.bits .and .u16 a1_0 a2_0) == 0) = false := beq_eq_false_iff_ne.mpr c4
    have c4b1 : ((Go.bits .and .u16 a1_0 a2_0) != 0) = true := bne_iff_ne.mpr c4
    replace H := Option.bind_eq_some_iff.mp H
    obtain ⟨t617, A1400, H⟩ := H
    replace H : (some t617) = some r := H
    have A140 := Aside0.mk A1400
    clear A1400
    obtain rfl := Option.some.inj H
    go_enter Try.func7, Try.ntmps7
    go_wp2_with (first | ((with_reducible refine gate_dst (N := 3) rfl ?_); refine box_event ?hg (N := 3) ?hd (cs := #[.int .u8 a0_0, .int .u8 a0_1, .int .u8 a0_2, .int .u8 a0_3, .int .i64 a0_4, .int .i64 a0_5, .int .i64 a0_6, .int .u8 a0_7, .int .i64 a0_8]) (t := 23) ?hr ?_; (case hd => rfl); (case hg => rfl); (case hr => first | (go_simp; done) | (go_simp; rfl)); intro gb614 hg w141 hbox hb; have BK614 := Aside0.mk (hbox); have GW614 := bge HB hg; have GE614 := bge HB hg; replace HB := bh HB hb; clear hb hbox hg) | ((with_reducible refine gate_dst (N := 4) rfl ?_); refine box_event ?hg (N := 4) ?hd (cs := #[.int .u16 a1_0, .int .u8 a1_1, .int .u8 a1_2, .int .u8 a1_3, .int .u8 a1_4, .int .i64 a1_5, .int .i64 a1_6, .int .i64 a1_7, .int .u8 a1_8, .int .i64 a1_9]) (t := 26) ?hr ?_; (case hd => rfl); (case hg => rfl); (case hr => first | (go_simp; done) | (go_simp; rfl)); intro gb615 hg w142 hbox hb; have BK615 := Aside0.mk (hbox); have GW615 := bge HB hg; have GE615 := bge HB hg; replace HB := bh HB hb; have NB614_615 := nbl BK614 hg; have NB615_614 := nbg BK614 hg; replace BK614 := bb BK614 hb; clear hb hbox hg) | ((with_reducible refine gate_dst (N := 5) rfl ?_); refine box_event ?hg (N := 5) ?hd (cs := #[.int .u16 a2_0, .int .u8 a2_1, .int .u8 a2_2, .int .u8 a2_3, .int .u8 a2_4, .int .i64 a2_5, .int .i64 a2_6, .int .i64 a2_7, .int .u8 a2_8, .int .i64 a2_9]) (t := 26) ?hr ?_; (case hd => rfl); (case hg => rfl); (case hr => first | (go_simp; done) | (go_simp; rfl)); intro gb616 hg w143 hbox hb; have BK616 := Aside0.mk (hbox); have GW616 := bge HB hg; have GE616 := bge HB hg; replace HB := bh HB hb; have NB614_616 := nbl BK614 hg; have NB616_614 := nbg BK614 hg; replace BK614 := bb BK614 hb; have NB615_616 := nbl BK615 hg; have NB616_615 := nbg BK615 hg; replace BK615 := bb BK615 hb; clear hb hbox hg; have hnb144 := NB615_614.out; have hnc144 := NB614_615.out; have hnb145 := NB615_616.out; have hnc145 := NB616_615.out; obtain ⟨hcz146_0, hcz146_1, hcz146_2, hcz146_3, hcz146_4, hcz146_5, hcz146_6, hcz146_7, hcz146_8, hcz146_9⟩ := cz10 BK615; obtain ⟨hfz146_0, hfz146_1, hfz146_2, hfz146_3, hfz146_4, hfz146_5, hfz146_6, hfz146_7, hfz146_8, hfz146_9⟩ := fz10 BK615; have hnb147 := NB616_614.out; have hnc147 := NB614_616.out; obtain ⟨hcz148_0, hcz148_1, hcz148_2, hcz148_3, hcz148_4, hcz148_5, hcz148_6, hcz148_7, hcz148_8, hcz148_9⟩ := cz10 BK616; obtain ⟨hfz148_0, hfz148_1, hfz148_2, hfz148_3, hfz148_4, hfz148_5, hfz148_6, hfz148_7, hfz148_8, hfz148_9⟩ := fz10 BK616) | ((with_reducible refine gate_callee (f := 22) rfl ?_); refine goesB (some 25) rfl rfl Try.func22 #[] rfl ?_; (with_reducible refine (stickfullaw06_head.calls k  t617 _ A140.out).mono ?_); rintro e w149 ⟨rfl, hb⟩; refine ⟨_, rfl, ?_⟩; replace BK614 := bb BK614 hb; replace BK615 := bb BK615 hb; replace BK616 := bb BK616 hb; replace HB := bh HB hb; (try clear hb); (try clear hb2); (try clear hk); (try clear hi)))
    go_ret
    exact ⟨by first | rfl | (simp [errW_none, errW_some] <;> rfl) | (simp [*, errW_none, errW_some] <;> rfl), by repeat (first | (with_reducible first | exact HB.out | apply below_alloc | apply pw_below_drewN | apply below_drew1 | refine below_set ?_ GE614.out | refine below_set ?_ GE615.out | refine below_set ?_ GE616.out) | exact HB.out)⟩

end Go.Proofs.Ytahpkfmgeifenaa.HStyle
