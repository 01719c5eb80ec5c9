-- Written by this claim's own program over the kit's print.
import Derived.Test.YtahpkfmgeifenaaHStyleb
import Derived.Test.YtahpkfmgeifenaaHStylex0
import Derived.Test.YtahpkfmgeifenaaHStylex1
import Derived.Test.YtahpkfmgeifenaaHStylex2
import Derived.Test.YtahpkfmgeifenaaHStylex4
import Derived.Test.YtahpkfmgeifenaaHStylex5
import Derived.Test.YtahpkfmgeifenaaHStylex7
import Derived.Test.YtahpkfmgeifenaaHStylex8
import Derived.Test.YtahpkfmgeifenaaHStylex9
import Derived.Test.YtahpkfmgeifenaaHStylex10
namespace Go.Proofs.Ytahpkfmgeifenaa.HStyle
open Go.RowKit Go.Proofs.YtahpkfmgeifenaaW.PrintWords Go.Proofs.YtahpkfmgeifenaaW.PrintLast Go.Proofs.YtahpkfmgeifenaaW.PrintMore Go.Proofs.Ytahpkfmgeifenaa.Hand
attribute [local go_sem] max2_int min2_int max_two min_two max_three min_three max_four min_four   -- for this text's walks alone
set_option linter.unusedVariables false
set_option linter.unusedSimpArgs false

attribute [local go_sem high] eqA23 eqA26
/-! ### stickfullaw06_StyleTells: function 3 -/
def stickfullaw06_StyleTells.f (k : Nat) (a0_0 a0_1 a0_2 a0_3 a0_4 a0_5 a0_6 a0_7 a0_8 a1_0 a1_1 a1_2 a1_3 a1_4 a1_5 a1_6 a1_7 a1_8 a1_9 a2_0 a2_1 a2_2 a2_3 a2_4 a2_5 a2_6 a2_7 a2_8 a2_9 : Int) : Option (Bool) := (style_Resolve.f a0_0 a0_1 a0_2 a0_3 a0_4 a0_5 a0_6 a0_7 a0_8 a1_0 a1_1 a1_2 a1_3 a1_4 a1_5 a1_6 a1_7 a1_8 a1_9).bind fun bt311 => ((stickfulref06_Resolve.f k a0_0 a0_1 a0_2 a0_3 a0_4 a0_5 a0_6 a0_7 a0_8 a1_0 a1_1 a1_2 a1_3 a1_4 a1_5 a1_6 a1_7 a1_8 a1_9).bind fun bt322 => ((style_Merge.f a1_0 a1_1 a1_2 a1_3 a1_4 a1_5 a1_6 a1_7 a1_8 a1_9 a2_0 a2_1 a2_2 a2_3 a2_4 a2_5 a2_6 a2_7 a2_8 a2_9).bind fun bt333 => ((stickfulref06_Merge.f k a1_0 a1_1 a1_2 a1_3 a1_4 a1_5 a1_6 a1_7 a1_8 a1_9 a2_0 a2_1 a2_2 a2_3 a2_4 a2_5 a2_6 a2_7 a2_8 a2_9).bind fun bt345 => ((style_Check.f a0_0 a0_1 a0_2 a0_3 a0_4 a0_5 a0_6 a0_7 a0_8).bind fun t357 => ((stickfulref06_Check.f a0_0 a0_1 a0_2 a0_3 a0_4 a0_5 a0_6 a0_7 a0_8).bind fun t358 => (if t357 = t358 then ((style_CheckDecl.f a1_0 a1_1 a1_2 a1_3 a1_4 a1_5 a1_6 a1_7 a1_8 a1_9).bind fun t359 => ((stickfulref06_CheckDecl.f k a1_0 a1_1 a1_2 a1_3 a1_4 a1_5 a1_6 a1_7 a1_8 a1_9).bind fun t360 => (if t359 = t360 then (if (bt311.1 == bt322.1 && (bt311.2.1 == bt322.2.1 && (bt311.2.2.1 == bt322.2.2.1 && (bt311.2.2.2.1 == bt322.2.2.2.1 && (bt311.2.2.2.2.1 == bt322.2.2.2.2.1 && (bt311.2.2.2.2.2.1 == bt322.2.2.2.2.2.1 && (bt311.2.2.2.2.2.2.1 == bt322.2.2.2.2.2.2.1 && (bt311.2.2.2.2.2.2.2.1 == bt322.2.2.2.2.2.2.2.1 && (bt311.2.2.2.2.2.2.2.2.1 == bt322.2.2.2.2.2.2.2.2.1))))))))) = true then (if bt311.2.2.2.2.2.2.2.2.2 = bt322.2.2.2.2.2.2.2.2.2 then (if (bt333.1 == bt345.1 && ((bt333.2.1 == bt345.2.1 && (bt333.2.2.1 == bt345.2.2.1 && (bt333.2.2.2.1 == bt345.2.2.2.1 && (bt333.2.2.2.2.1 == bt345.2.2.2.2.1 && (bt333.2.2.2.2.2.1 == bt345.2.2.2.2.2.1 && (bt333.2.2.2.2.2.2.1 == bt345.2.2.2.2.2.2.1 && (bt333.2.2.2.2.2.2.2.1 == bt345.2.2.2.2.2.2.2.1 && (bt333.2.2.2.2.2.2.2.2.1 == bt345.2.2.2.2.2.2.2.2.1 && (bt333.2.2.2.2.2.2.2.2.2.1 == bt345.2.2.2.2.2.2.2.2.2.1))))))))))) = true then (if bt333.2.2.2.2.2.2.2.2.2.2 = bt345.2.2.2.2.2.2.2.2.2.2 then ((style_First.f).bind fun bt361 => ((stickfulref06_First.f).bind fun bt370 => (if (bt361.1 == bt370.1 && (bt361.2.1 == bt370.2.1 && (bt361.2.2.1 == bt370.2.2.1 && (bt361.2.2.2.1 == bt370.2.2.2.1 && (bt361.2.2.2.2.1 == bt370.2.2.2.2.1 && (bt361.2.2.2.2.2.1 == bt370.2.2.2.2.2.1 && (bt361.2.2.2.2.2.2.1 == bt370.2.2.2.2.2.2.1 && (bt361.2.2.2.2.2.2.2.1 == bt370.2.2.2.2.2.2.2.1 && (bt361.2.2.2.2.2.2.2.2 == bt370.2.2.2.2.2.2.2.2))))))))) = true then ((stickfullaw06_head.f k).bind fun t379 => (some t379)) else (some false)))) else (some false)) else (some false)) else (some false)) else (some false)) else (some false)))) else (some false)))))))
theorem stickfullaw06_StyleTells.mono : ∀ a0 a1 a2 a3 a4 a5 a6 a7 a8 a9 a10 a11 a12 a13 a14 a15 a16 a17 a18 a19 a20 a21 a22 a23 a24 a25 a26 a27 a28 k, LeO (stickfullaw06_StyleTells.f k a0 a1 a2 a3 a4 a5 a6 a7 a8 a9 a10 a11 a12 a13 a14 a15 a16 a17 a18 a19 a20 a21 a22 a23 a24 a25 a26 a27 a28) (stickfullaw06_StyleTells.f (k + 1) a0 a1 a2 a3 a4 a5 a6 a7 a8 a9 a10 a11 a12 a13 a14 a15 a16 a17 a18 a19 a20 a21 a22 a23 a24 a25 a26 a27 a28) := by
  intro a0 a1 a2 a3 a4 a5 a6 a7 a8 a9 a10 a11 a12 a13 a14 a15 a16 a17 a18 a19 a20 a21 a22 a23 a24 a25 a26 a27 a28 k
  unfold stickfullaw06_StyleTells.f
  repeat' first
      | (with_reducible exact stickfullaw06_head.mono _)
      | (with_reducible exact stickfulref06_CheckDecl.mono _ _ _ _ _ _ _ _ _ _ _)
      | (with_reducible exact stickfulref06_Merge.mono _ _ _ _ _ _ _ _ _ _ _ _ _ _ _ _ _ _ _ _ _)
      | (with_reducible exact stickfulref06_Resolve.mono _ _ _ _ _ _ _ _ _ _ _ _ _ _ _ _ _ _ _ _)
      | (with_reducible exact LeO.refl _)
      | (with_reducible exact LeO.none _)
      | (with_reducible refine LeO.ite ?_ ?_)
      | (with_reducible refine LeO.bind ?_ (fun _ => ?_))
      | exact stickfullaw06_head.mono _
      | exact stickfulref06_CheckDecl.mono _ _ _ _ _ _ _ _ _ _ _
      | exact stickfulref06_Merge.mono _ _ _ _ _ _ _ _ _ _ _ _ _ _ _ _ _ _ _ _ _
      | exact stickfulref06_Resolve.mono _ _ _ _ _ _ _ _ _ _ _ _ _ _ _ _ _ _ _ _
      | exact LeO.none _
      | refine LeO.ite ?_ ?_
      | refine LeO.bind ?_ (fun _ => ?_)
def stickfullaw06_StyleTells.T5 : Bool × List (List Nat × List Nat) := (true, [([], []), ([0], [0]), ([], []), ([2, 1], [2]), ([1, 3], [1, 3]), ([4, 3], [4]), ([5], [5]), ([6, 5, 5], [5, 6]), ([5], [5]), ([8, 7, 5], [5, 8]), ([7, 9, 5], [5, 7, 9]), ([5, 10], [5, 10]), ([11, 9], [11]), ([12], [12]), ([12], [12]), ([13, 14, 12], [12, 13, 14]), ([12, 15], [12, 15]), ([16, 12], [16]), ([17], [17]), ([17], [17]), ([18, 19, 17], [17, 18, 19]), ([17, 20], [17, 20]), ([21, 17], [21]), ([22], [22]), ([22], [22]), ([23, 24, 22], [22, 23, 24]), ([22, 25], [22, 25]), ([26, 22], [26]), ([27], [27]), ([27], [27]), ([28, 29, 27], [27, 28, 29]), ([27, 30], [27, 30]), ([31, 27], [31]), ([32, 32], [32]), ([33, 32], [32]), ([33, 34, 32], [32, 33, 34]), ([32, 35], [32, 35]), ([36, 34], [36]), ([37, 37], [37]), ([37, 38], [37, 38]), ([39, 38, 0, 1, 2, 3, 4, 5, 6, 7, 8, 9, 10, 11, 12, 13, 14, 15, 16, 17, 18, 19, 20, 21, 22, 23, 24, 25, 26, 27, 28, 29, 30, 31, 32, 33, 34, 35, 36, 37, 38, 39], [39])])
def stickfullaw06_StyleTells.B5 : List Nat := [0, 1, 0, 7, 15, 31, 63, 127, 63, 511, 1023, 2047, 4095, 8191, 8191, 32767, 65535, 131071, 262143, 262143, 1048575, 2097151, 4194303, 8388607, 8388607, 33554431, 67108863, 134217727, 268435455, 268435455, 1073741823, 2147483647, 4294967295, 8589934591, 17179869183, 34359738367, 68719476735, 137438953471, 274877906943, 549755813887, 1099511627775]
theorem stickfullaw06_StyleTells.tab5 : rtab .any (opsOf Try.f3 5) = stickfullaw06_StyleTells.T5 := by kernel_rfl
theorem stickfullaw06_StyleTells.bits5 : waitsOk stickfullaw06_StyleTells.T5.2 stickfullaw06_StyleTells.B5 = true := by kernel_rfl
set_option maxHeartbeats 8000000 in
set_option maxRecDepth 100000 in
theorem stickfullaw06_StyleTells.calls_t (k : Nat) (a0_0 a0_1 a0_2 a0_3 a0_4 a0_5 a0_6 a0_7 a0_8 a1_0 a1_1 a1_2 a1_3 a1_4 a1_5 a1_6 a1_7 a1_8 a1_9 a2_0 a2_1 a2_2 a2_3 a2_4 a2_5 a2_6 a2_7 a2_8 a2_9 : Int) (r : Bool) (w : World) (h : stickfullaw06_StyleTells.f k a0_0 a0_1 a0_2 a0_3 a0_4 a0_5 a0_6 a0_7 a0_8 a1_0 a1_1 a1_2 a1_3 a1_4 a1_5 a1_6 a1_7 a1_8 a1_9 a2_0 a2_1 a2_2 a2_3 a2_4 a2_5 a2_6 a2_7 a2_8 a2_9 = some r) (hr_ : r = true) :
    Calls Try.prog 3 #[.agg #[.int .u8 a0_0, .int .u8 a0_1, .int .u8 a0_2, .int .u8 a0_3, .int .i64 a0_4, .int .i64 a0_5, .int .i64 a0_6, .int .u8 a0_7, .int .i64 a0_8], .agg #[.int .u16 a1_0, .int .u8 a1_1, .int .u8 a1_2, .int .u8 a1_3, .int .u8 a1_4, .int .i64 a1_5, .int .i64 a1_6, .int .i64 a1_7, .int .u8 a1_8, .int .i64 a1_9], .agg #[.int .u16 a2_0, .int .u8 a2_1, .int .u8 a2_2, .int .u8 a2_3, .int .u8 a2_4, .int .i64 a2_5, .int .i64 a2_6, .int .i64 a2_7, .int .u8 a2_8, .int .i64 a2_9]] w fun e w' => e = .returned (.bool r) ∧ Below w.heap.size w w' := by
  have hu23 := Try.underlying23
  have hu26 := Try.underlying26
  have HR_ := Aside0.mk hr_
  clear hr_
  have HB := Aside0.mk (Below.refl w.heap.size w)
  have H : ((style_Resolve.f a0_0 a0_1 a0_2 a0_3 a0_4 a0_5 a0_6 a0_7 a0_8 a1_0 a1_1 a1_2 a1_3 a1_4 a1_5 a1_6 a1_7 a1_8 a1_9).bind fun bt311 => ((stickfulref06_Resolve.f k a0_0 a0_1 a0_2 a0_3 a0_4 a0_5 a0_6 a0_7 a0_8 a1_0 a1_1 a1_2 a1_3 a1_4 a1_5 a1_6 a1_7 a1_8 a1_9).bind fun bt322 => ((style_Merge.f a1_0 a1_1 a1_2 a1_3 a1_4 a1_5 a1_6 a1_7 a1_8 a1_9 a2_0 a2_1 a2_2 a2_3 a2_4 a2_5 a2_6 a2_7 a2_8 a2_9).bind fun bt333 => ((stickfulref06_Merge.f k a1_0 a1_1 a1_2 a1_3 a1_4 a1_5 a1_6 a1_7 a1_8 a1_9 a2_0 a2_1 a2_2 a2_3 a2_4 a2_5 a2_6 a2_7 a2_8 a2_9).bind fun bt345 => ((style_Check.f a0_0 a0_1 a0_2 a0_3 a0_4 a0_5 a0_6 a0_7 a0_8).bind fun t357 => ((stickfulref06_Check.f a0_0 a0_1 a0_2 a0_3 a0_4 a0_5 a0_6 a0_7 a0_8).bind fun t358 => (if t357 = t358 then ((style_CheckDecl.f a1_0 a1_1 a1_2 a1_3 a1_4 a1_5 a1_6 a1_7 a1_8 a1_9).bind fun t359 => ((stickfulref06_CheckDecl.f k a1_0 a1_1 a1_2 a1_3 a1_4 a1_5 a1_6 a1_7 a1_8 a1_9).bind fun t360 => (if t359 = t360 then (if (bt311.1 == bt322.1 && (bt311.2.1 == bt322.2.1 && (bt311.2.2.1 == bt322.2.2.1 && (bt311.2.2.2.1 == bt322.2.2.2.1 && (bt311.2.2.2.2.1 == bt322.2.2.2.2.1 && (bt311.2.2.2.2.2.1 == bt322.2.2.2.2.2.1 && (bt311.2.2.2.2.2.2.1 == bt322.2.2.2.2.2.2.1 && (bt311.2.2.2.2.2.2.2.1 == bt322.2.2.2.2.2.2.2.1 && (bt311.2.2.2.2.2.2.2.2.1 == bt322.2.2.2.2.2.2.2.2.1))))))))) = true then (if bt311.2.2.2.2.2.2.2.2.2 = bt322.2.2.2.2.2.2.2.2.2 then (if (bt333.1 == bt345.1 && ((bt333.2.1 == bt345.2.1 && (bt333.2.2.1 == bt345.2.2.1 && (bt333.2.2.2.1 == bt345.2.2.2.1 && (bt333.2.2.2.2.1 == bt345.2.2.2.2.1 && (bt333.2.2.2.2.2.1 == bt345.2.2.2.2.2.1 && (bt333.2.2.2.2.2.2.1 == bt345.2.2.2.2.2.2.1 && (bt333.2.2.2.2.2.2.2.1 == bt345.2.2.2.2.2.2.2.1 && (bt333.2.2.2.2.2.2.2.2.1 == bt345.2.2.2.2.2.2.2.2.1 && (bt333.2.2.2.2.2.2.2.2.2.1 == bt345.2.2.2.2.2.2.2.2.2.1))))))))))) = true then (if bt333.2.2.2.2.2.2.2.2.2.2 = bt345.2.2.2.2.2.2.2.2.2.2 then ((style_First.f).bind fun bt361 => ((stickfulref06_First.f).bind fun bt370 => (if (bt361.1 == bt370.1 && (bt361.2.1 == bt370.2.1 && (bt361.2.2.1 == bt370.2.2.1 && (bt361.2.2.2.1 == bt370.2.2.2.1 && (bt361.2.2.2.2.1 == bt370.2.2.2.2.1 && (bt361.2.2.2.2.2.1 == bt370.2.2.2.2.2.1 && (bt361.2.2.2.2.2.2.1 == bt370.2.2.2.2.2.2.1 && (bt361.2.2.2.2.2.2.2.1 == bt370.2.2.2.2.2.2.2.1 && (bt361.2.2.2.2.2.2.2.2 == bt370.2.2.2.2.2.2.2.2))))))))) = true then ((stickfullaw06_head.f k).bind fun t379 => (some t379)) else (some false)))) else (some false)) else (some false)) else (some false)) else (some false)) else (some false)))) else (some false)))))))) = some r := h
  clear h
  replace H := Option.bind_eq_some_iff.mp H
  obtain ⟨⟨t311, t312, t313, t314, t315, t316, t317, t318, t319, t320⟩, A40, H⟩ := H
  replace H : ((stickfulref06_Resolve.f k a0_0 a0_1 a0_2 a0_3 a0_4 a0_5 a0_6 a0_7 a0_8 a1_0 a1_1 a1_2 a1_3 a1_4 a1_5 a1_6 a1_7 a1_8 a1_9).bind fun bt322 => ((style_Merge.f a1_0 a1_1 a1_2 a1_3 a1_4 a1_5 a1_6 a1_7 a1_8 a1_9 a2_0 a2_1 a2_2 a2_3 a2_4 a2_5 a2_6 a2_7 a2_8 a2_9).bind fun bt333 => ((stickfulref06_Merge.f k a1_0 a1_1 a1_2 a1_3 a1_4 a1_5 a1_6 a1_7 a1_8 a1_9 a2_0 a2_1 a2_2 a2_3 a2_4 a2_5 a2_6 a2_7 a2_8 a2_9).bind fun bt345 => ((style_Check.f a0_0 a0_1 a0_2 a0_3 a0_4 a0_5 a0_6 a0_7 a0_8).bind fun t357 => ((stickfulref06_Check.f a0_0 a0_1 a0_2 a0_3 a0_4 a0_5 a0_6 a0_7 a0_8).bind fun t358 => (if t357 = t358 then ((style_CheckDecl.f a1_0 a1_1 a1_2 a1_3 a1_4 a1_5 a1_6 a1_7 a1_8 a1_9).bind fun t359 => ((stickfulref06_CheckDecl.f k a1_0 a1_1 a1_2 a1_3 a1_4 a1_5 a1_6 a1_7 a1_8 a1_9).bind fun t360 => (if t359 = t360 then (if (t311 == bt322.1 && (t312 == bt322.2.1 && (t313 == bt322.2.2.1 && (t314 == bt322.2.2.2.1 && (t315 == bt322.2.2.2.2.1 && (t316 == bt322.2.2.2.2.2.1 && (t317 == bt322.2.2.2.2.2.2.1 && (t318 == bt322.2.2.2.2.2.2.2.1 && (t319 == bt322.2.2.2.2.2.2.2.2.1))))))))) = true then (if t320 = bt322.2.2.2.2.2.2.2.2.2 then (if (bt333.1 == bt345.1 && ((bt333.2.1 == bt345.2.1 && (bt333.2.2.1 == bt345.2.2.1 && (bt333.2.2.2.1 == bt345.2.2.2.1 && (bt333.2.2.2.2.1 == bt345.2.2.2.2.1 && (bt333.2.2.2.2.2.1 == bt345.2.2.2.2.2.1 && (bt333.2.2.2.2.2.2.1 == bt345.2.2.2.2.2.2.1 && (bt333.2.2.2.2.2.2.2.1 == bt345.2.2.2.2.2.2.2.1 && (bt333.2.2.2.2.2.2.2.2.1 == bt345.2.2.2.2.2.2.2.2.1 && (bt333.2.2.2.2.2.2.2.2.2.1 == bt345.2.2.2.2.2.2.2.2.2.1))))))))))) = true then (if bt333.2.2.2.2.2.2.2.2.2.2 = bt345.2.2.2.2.2.2.2.2.2.2 then ((style_First.f).bind fun bt361 => ((stickfulref06_First.f).bind fun bt370 => (if (bt361.1 == bt370.1 && (bt361.2.1 == bt370.2.1 && (bt361.2.2.1 == bt370.2.2.1 && (bt361.2.2.2.1 == bt370.2.2.2.1 && (bt361.2.2.2.2.1 == bt370.2.2.2.2.1 && (bt361.2.2.2.2.2.1 == bt370.2.2.2.2.2.1 && (bt361.2.2.2.2.2.2.1 == bt370.2.2.2.2.2.2.1 && (bt361.2.2.2.2.2.2.2.1 == bt370.2.2.2.2.2.2.2.1 && (bt361.2.2.2.2.2.2.2.2 == bt370.2.2.2.2.2.2.2.2))))))))) = true then ((stickfullaw06_head.f k).bind fun t379 => (some t379)) else (some false)))) else (some false)) else (some false)) else (some false)) else (some false)) else (some false)))) else (some false))))))) = some r := H
  have A4 := Aside0.mk A40
  clear A40
  replace H := Option.bind_eq_some_iff.mp H
  obtain ⟨⟨t322, t323, t324, t325, t326, t327, t328, t329, t330, t331⟩, A50, H⟩ := H
  replace H : ((style_Merge.f a1_0 a1_1 a1_2 a1_3 a1_4 a1_5 a1_6 a1_7 a1_8 a1_9 a2_0 a2_1 a2_2 a2_3 a2_4 a2_5 a2_6 a2_7 a2_8 a2_9).bind fun bt333 => ((stickfulref06_Merge.f k a1_0 a1_1 a1_2 a1_3 a1_4 a1_5 a1_6 a1_7 a1_8 a1_9 a2_0 a2_1 a2_2 a2_3 a2_4 a2_5 a2_6 a2_7 a2_8 a2_9).bind fun bt345 => ((style_Check.f a0_0 a0_1 a0_2 a0_3 a0_4 a0_5 a0_6 a0_7 a0_8).bind fun t357 => ((stickfulref06_Check.f a0_0 a0_1 a0_2 a0_3 a0_4 a0_5 a0_6 a0_7 a0_8).bind fun t358 => (if t357 = t358 then ((style_CheckDecl.f a1_0 a1_1 a1_2 a1_3 a1_4 a1_5 a1_6 a1_7 a1_8 a1_9).bind fun t359 => ((stickfulref06_CheckDecl.f k a1_0 a1_1 a1_2 a1_3 a1_4 a1_5 a1_6 a1_7 a1_8 a1_9).bind fun t360 => (if t359 = t360 then (if (t311 == t322 && (t312 == t323 && (t313 == t324 && (t314 == t325 && (t315 == t326 && (t316 == t327 && (t317 == t328 && (t318 == t329 && (t319 == t330))))))))) = true then (if t320 = t331 then (if (bt333.1 == bt345.1 && ((bt333.2.1 == bt345.2.1 && (bt333.2.2.1 == bt345.2.2.1 && (bt333.2.2.2.1 == bt345.2.2.2.1 && (bt333.2.2.2.2.1 == bt345.2.2.2.2.1 && (bt333.2.2.2.2.2.1 == bt345.2.2.2.2.2.1 && (bt333.2.2.2.2.2.2.1 == bt345.2.2.2.2.2.2.1 && (bt333.2.2.2.2.2.2.2.1 == bt345.2.2.2.2.2.2.2.1 && (bt333.2.2.2.2.2.2.2.2.1 == bt345.2.2.2.2.2.2.2.2.1 && (bt333.2.2.2.2.2.2.2.2.2.1 == bt345.2.2.2.2.2.2.2.2.2.1))))))))))) = true then (if bt333.2.2.2.2.2.2.2.2.2.2 = bt345.2.2.2.2.2.2.2.2.2.2 then ((style_First.f).bind fun bt361 => ((stickfulref06_First.f).bind fun bt370 => (if (bt361.1 == bt370.1 && (bt361.2.1 == bt370.2.1 && (bt361.2.2.1 == bt370.2.2.1 && (bt361.2.2.2.1 == bt370.2.2.2.1 && (bt361.2.2.2.2.1 == bt370.2.2.2.2.1 && (bt361.2.2.2.2.2.1 == bt370.2.2.2.2.2.1 && (bt361.2.2.2.2.2.2.1 == bt370.2.2.2.2.2.2.1 && (bt361.2.2.2.2.2.2.2.1 == bt370.2.2.2.2.2.2.2.1 && (bt361.2.2.2.2.2.2.2.2 == bt370.2.2.2.2.2.2.2.2))))))))) = true then ((stickfullaw06_head.f k).bind fun t379 => (some t379)) else (some false)))) else (some false)) else (some false)) else (some false)) else (some false)) else (some false)))) else (some false)))))) = some r := H
  have A5 := Aside0.mk A50
  clear A50
  replace H := Option.bind_eq_some_iff.mp H
  obtain ⟨⟨t333, t334, t335, t336, t337, t338, t339, t340, t341, t342, t343⟩, A60, H⟩ := H
  replace H : ((stickfulref06_Merge.f k a1_0 a1_1 a1_2 a1_3 a1_4 a1_5 a1_6 a1_7 a1_8 a1_9 a2_0 a2_1 a2_2 a2_3 a2_4 a2_5 a2_6 a2_7 a2_8 a2_9).bind fun bt345 => ((style_Check.f a0_0 a0_1 a0_2 a0_3 a0_4 a0_5 a0_6 a0_7 a0_8).bind fun t357 => ((stickfulref06_Check.f a0_0 a0_1 a0_2 a0_3 a0_4 a0_5 a0_6 a0_7 a0_8).bind fun t358 => (if t357 = t358 then ((style_CheckDecl.f a1_0 a1_1 a1_2 a1_3 a1_4 a1_5 a1_6 a1_7 a1_8 a1_9).bind fun t359 => ((stickfulref06_CheckDecl.f k a1_0 a1_1 a1_2 a1_3 a1_4 a1_5 a1_6 a1_7 a1_8 a1_9).bind fun t360 => (if t359 = t360 then (if (t311 == t322 && (t312 == t323 && (t313 == t324 && (t314 == t325 && (t315 == t326 && (t316 == t327 && (t317 == t328 && (t318 == t329 && (t319 == t330))))))))) = true then (if t320 = t331 then (if (t333 == bt345.1 && ((t334 == bt345.2.1 && (t335 == bt345.2.2.1 && (t336 == bt345.2.2.2.1 && (t337 == bt345.2.2.2.2.1 && (t338 == bt345.2.2.2.2.2.1 && (t339 == bt345.2.2.2.2.2.2.1 && (t340 == bt345.2.2.2.2.2.2.2.1 && (t341 == bt345.2.2.2.2.2.2.2.2.1 && (t342 == bt345.2.2.2.2.2.2.2.2.2.1))))))))))) = true then (if t343 = bt345.2.2.2.2.2.2.2.2.2.2 then ((style_First.f).bind fun bt361 => ((stickfulref06_First.f).bind fun bt370 => (if (bt361.1 == bt370.1 && (bt361.2.1 == bt370.2.1 && (bt361.2.2.1 == bt370.2.2.1 && (bt361.2.2.2.1 == bt370.2.2.2.1 && (bt361.2.2.2.2.1 == bt370.2.2.2.2.1 && (bt361.2.2.2.2.2.1 == bt370.2.2.2.2.2.1 && (bt361.2.2.2.2.2.2.1 == bt370.2.2.2.2.2.2.1 && (bt361.2.2.2.2.2.2.2.1 == bt370.2.2.2.2.2.2.2.1 && (bt361.2.2.2.2.2.2.2.2 == bt370.2.2.2.2.2.2.2.2))))))))) = true then ((stickfullaw06_head.f k).bind fun t379 => (some t379)) else (some false)))) else (some false)) else (some false)) else (some false)) else (some false)) else (some false)))) else (some false))))) = some r := H
  have A6 := Aside0.mk A60
  clear A60
  replace H := Option.bind_eq_some_iff.mp H
  obtain ⟨⟨t345, t346, t347, t348, t349, t350, t351, t352, t353, t354, t355⟩, A70, H⟩ := H
  replace H : ((style_Check.f a0_0 a0_1 a0_2 a0_3 a0_4 a0_5 a0_6 a0_7 a0_8).bind fun t357 => ((stickfulref06_Check.f a0_0 a0_1 a0_2 a0_3 a0_4 a0_5 a0_6 a0_7 a0_8).bind fun t358 => (if t357 = t358 then ((style_CheckDecl.f a1_0 a1_1 a1_2 a1_3 a1_4 a1_5 a1_6 a1_7 a1_8 a1_9).bind fun t359 => ((stickfulref06_CheckDecl.f k a1_0 a1_1 a1_2 a1_3 a1_4 a1_5 a1_6 a1_7 a1_8 a1_9).bind fun t360 => (if t359 = t360 then (if (t311 == t322 && (t312 == t323 && (t313 == t324 && (t314 == t325 && (t315 == t326 && (t316 == t327 && (t317 == t328 && (t318 == t329 && (t319 == t330))))))))) = true then (if t320 = t331 then (if (t333 == t345 && ((t334 == t346 && (t335 == t347 && (t336 == t348 && (t337 == t349 && (t338 == t350 && (t339 == t351 && (t340 == t352 && (t341 == t353 && (t342 == t354))))))))))) = true then (if t343 = t355 then ((style_First.f).bind fun bt361 => ((stickfulref06_First.f).bind fun bt370 => (if (bt361.1 == bt370.1 && (bt361.2.1 == bt370.2.1 && (bt361.2.2.1 == bt370.2.2.1 && (bt361.2.2.2.1 == bt370.2.2.2.1 && (bt361.2.2.2.2.1 == bt370.2.2.2.2.1 && (bt361.2.2.2.2.2.1 == bt370.2.2.2.2.2.1 && (bt361.2.2.2.2.2.2.1 == bt370.2.2.2.2.2.2.1 && (bt361.2.2.2.2.2.2.2.1 == bt370.2.2.2.2.2.2.2.1 && (bt361.2.2.2.2.2.2.2.2 == bt370.2.2.2.2.2.2.2.2))))))))) = true then ((stickfullaw06_head.f k).bind fun t379 => (some t379)) else (some false)))) else (some false)) else (some false)) else (some false)) else (some false)) else (some false)))) else (some false)))) = some r := H
  have A7 := Aside0.mk A70
  clear A70
  replace H := Option.bind_eq_some_iff.mp H
  obtain ⟨t357, A80, H⟩ := H
  replace H : ((stickfulref06_Check.f a0_0 a0_1 a0_2 a0_3 a0_4 a0_5 a0_6 a0_7 a0_8).bind fun t358 => (if t357 = t358 then ((style_CheckDecl.f a1_0 a1_1 a1_2 a1_3 a1_4 a1_5 a1_6 a1_7 a1_8 a1_9).bind fun t359 => ((stickfulref06_CheckDecl.f k a1_0 a1_1 a1_2 a1_3 a1_4 a1_5 a1_6 a1_7 a1_8 a1_9).bind fun t360 => (if t359 = t360 then (if (t311 == t322 && (t312 == t323 && (t313 == t324 && (t314 == t325 && (t315 == t326 && (t316 == t327 && (t317 == t328 && (t318 == t329 && (t319 == t330))))))))) = true then (if t320 = t331 then (if (t333 == t345 && ((t334 == t346 && (t335 == t347 && (t336 == t348 && (t337 == t349 && (t338 == t350 && (t339 == t351 && (t340 == t352 && (t341 == t353 && (t342 == t354))))))))))) = true then (if t343 = t355 then ((style_First.f).bind fun bt361 => ((stickfulref06_First.f).bind fun bt370 => (if (bt361.1 == bt370.1 && (bt361.2.1 == bt370.2.1 && (bt361.2.2.1 == bt370.2.2.1 && (bt361.2.2.2.1 == bt370.2.2.2.1 && (bt361.2.2.2.2.1 == bt370.2.2.2.2.1 && (bt361.2.2.2.2.2.1 == bt370.2.2.2.2.2.1 && (bt361.2.2.2.2.2.2.1 == bt370.2.2.2.2.2.2.1 && (bt361.2.2.2.2.2.2.2.1 == bt370.2.2.2.2.2.2.2.1 && (bt361.2.2.2.2.2.2.2.2 == bt370.2.2.2.2.2.2.2.2))))))))) = true then ((stickfullaw06_head.f k).bind fun t379 => (some t379)) else (some false)))) else (some false)) else (some false)) else (some false)) else (some false)) else (some false)))) else (some false))) = some r := H
  have A8 := Aside0.mk A80
  clear A80
  replace H := Option.bind_eq_some_iff.mp H
  obtain ⟨t358, A90, H⟩ := H
  replace H : (if t357 = t358 then ((style_CheckDecl.f a1_0 a1_1 a1_2 a1_3 a1_4 a1_5 a1_6 a1_7 a1_8 a1_9).bind fun t359 => ((stickfulref06_CheckDecl.f k a1_0 a1_1 a1_2 a1_3 a1_4 a1_5 a1_6 a1_7 a1_8 a1_9).bind fun t360 => (if t359 = t360 then (if (t311 == t322 && (t312 == t323 && (t313 == t324 && (t314 == t325 && (t315 == t326 && (t316 == t327 && (t317 == t328 && (t318 == t329 && (t319 == t330))))))))) = true then (if t320 = t331 then (if (t333 == t345 && ((t334 == t346 && (t335 == t347 && (t336 == t348 && (t337 == t349 && (t338 == t350 && (t339 == t351 && (t340 == t352 && (t341 == t353 && (t342 == t354))))))))))) = true then (if t343 = t355 then ((style_First.f).bind fun bt361 => ((stickfulref06_First.f).bind fun bt370 => (if (bt361.1 == bt370.1 && (bt361.2.1 == bt370.2.1 && (bt361.2.2.1 == bt370.2.2.1 && (bt361.2.2.2.1 == bt370.2.2.2.1 && (bt361.2.2.2.2.1 == bt370.2.2.2.2.1 && (bt361.2.2.2.2.2.1 == bt370.2.2.2.2.2.1 && (bt361.2.2.2.2.2.2.1 == bt370.2.2.2.2.2.2.1 && (bt361.2.2.2.2.2.2.2.1 == bt370.2.2.2.2.2.2.2.1 && (bt361.2.2.2.2.2.2.2.2 == bt370.2.2.2.2.2.2.2.2))))))))) = true then ((stickfullaw06_head.f k).bind fun t379 => (some t379)) else (some false)))) else (some false)) else (some false)) else (some false)) else (some false)) else (some false)))) else (some false)) = some r := H
  have A9 := Aside0.mk A90
  clear A90
  by_cases c10 : t357 = t358
  · rw [if_pos c10] at H
    have c10b0 : (t357 == t358) = true := beq_iff_eq.mpr c10
    have c10b1 : (t357 != t358) = false := bne_eq_false_iff_eq.mpr c10
    clear c10
    replace H := Option.bind_eq_some_iff.mp H
    obtain ⟨t359, A110, H⟩ := H
    replace H : ((stickfulref06_CheckDecl.f k a1_0 a1_1 a1_2 a1_3 a1_4 a1_5 a1_6 a1_7 a1_8 a1_9).bind fun t360 => (if t359 = t360 then (if (t311 == t322 && (t312 == t323 && (t313 == t324 && (t314 == t325 && (t315 == t326 && (t316 == t327 && (t317 == t328 && (t318 == t329 && (t319 == t330))))))))) = true then (if t320 = t331 then (if (t333 == t345 && ((t334 == t346 && (t335 == t347 && (t336 == t348 && (t337 == t349 && (t338 == t350 && (t339 == t351 && (t340 == t352 && (t341 == t353 && (t342 == t354))))))))))) = true then (if t343 = t355 then ((style_First.f).bind fun bt361 => ((stickfulref06_First.f).bind fun bt370 => (if (bt361.1 == bt370.1 && (bt361.2.1 == bt370.2.1 && (bt361.2.2.1 == bt370.2.2.1 && (bt361.2.2.2.1 == bt370.2.2.2.1 && (bt361.2.2.2.2.1 == bt370.2.2.2.2.1 && (bt361.2.2.2.2.2.1 == bt370.2.2.2.2.2.1 && (bt361.2.2.2.2.2.2.1 == bt370.2.2.2.2.2.2.1 && (bt361.2.2.2.2.2.2.2.1 == bt370.2.2.2.2.2.2.2.1 && (bt361.2.2.2.2.2.2.2.2 == bt370.2.2.2.2.2.2.2.2))))))))) = true then ((stickfullaw06_head.f k).bind fun t379 => (some t379)) else (some false)))) else (some false)) else (some false)) else (some false)) else (some false)) else (some false))) = some r := H
    have A11 := Aside0.mk A110
    clear A110
    replace H := Option.bind_eq_some_iff.mp H
    obtain ⟨t360, A120, H⟩ := H
    replace H : (if t359 = t360 then (if (t311 == t322 && (t312 == t323 && (t313 == t324 && (t314 == t325 && (t315 == t326 && (t316 == t327 && (t317 == t328 && (t318 == t329 && (t319 == t330))))))))) = true then (if t320 = t331 then (if (t333 == t345 && ((t334 == t346 && (t335 == t347 && (t336 == t348 && (t337 == t349 && (t338 == t350 && (t339 == t351 && (t340 == t352 && (t341 == t353 && (t342 == t354))))))))))) = true then (if t343 = t355 then ((style_First.f).bind fun bt361 => ((stickfulref06_First.f).bind fun bt370 => (if (bt361.1 == bt370.1 && (bt361.2.1 == bt370.2.1 && (bt361.2.2.1 == bt370.2.2.1 && (bt361.2.2.2.1 == bt370.2.2.2.1 && (bt361.2.2.2.2.1 == bt370.2.2.2.2.1 && (bt361.2.2.2.2.2.1 == bt370.2.2.2.2.2.1 && (bt361.2.2.2.2.2.2.1 == bt370.2.2.2.2.2.2.1 && (bt361.2.2.2.2.2.2.2.1 == bt370.2.2.2.2.2.2.2.1 && (bt361.2.2.2.2.2.2.2.2 == bt370.2.2.2.2.2.2.2.2))))))))) = true then ((stickfullaw06_head.f k).bind fun t379 => (some t379)) else (some false)))) else (some false)) else (some false)) else (some false)) else (some false)) else (some false)) = some r := H
    have A12 := Aside0.mk A120
    clear A120
    by_cases c13 : t359 = t360
    · rw [if_pos c13] at H
      have c13b0 : (t359 == t360) = true := beq_iff_eq.mpr c13
      have c13b1 : (t359 != t360) = false := bne_eq_false_iff_eq.mpr c13
      clear c13
      by_cases c14 : (t311 == t322 && (t312 == t323 && (t313 == t324 && (t314 == t325 && (t315 == t326 && (t316 == t327 && (t317 == t328 && (t318 == t329 && (t319 == t330))))))))) = true
      · rw [if_pos c14] at H
        have c14b0 : (t311 == t322 && (t312 == t323 && (t313 == t324 && (t314 == t325 && (t315 == t326 && (t316 == t327 && (t317 == t328 && (t318 == t329 && (t319 == t330))))))))) = true := c14
        (try (have c14b1 : decide (t311 = t322 && (t312 == t323 && (t313 == t324 && (t314 == t325 && (t315 == t326 && (t316 == t327 && (t317 == t328 && (t318 == t329 && (t319 == t330))))))))) = true := by simpa using c14))
        (try (have c14b2 : (t311 == t322 && (t312 == t323 && (t313 == t324 && (t314 == t325 && (t315 == t326 && (t316 == t327 && (t317 == t328 && (t318 == t329 && (t319 == t330))))))))) = true := by simpa using c14))
        clear c14
        by_cases c15 : t320 = t331
        · rw [if_pos c15] at H
          have c15b0 : (t320 == t331) = true := beq_iff_eq.mpr c15
          have c15b1 : (t320 != t331) = false := bne_eq_false_iff_eq.mpr c15
          clear c15
          by_cases c16 : (t333 == t345 && ((t334 == t346 && (t335 == t347 && (t336 == t348 && (t337 == t349 && (t338 == t350 && (t339 == t351 && (t340 == t352 && (t341 == t353 && (t342 == t354))))))))))) = true
          · rw [if_pos c16] at H
            have c16b0 : (t333 == t345 && ((t334 == t346 && (t335 == t347 && (t336 == t348 && (t337 == t349 && (t338 == t350 && (t339 == t351 && (t340 == t352 && (t341 == t353 && (t342 == t354))))))))))) = true := c16
            (try (have c16b1 : decide (t333 = t345 && ((t334 == t346 && (t335 == t347 && (t336 == t348 && (t337 == t349 && (t338 == t350 && (t339 == t351 && (t340 == t352 && (t341 == t353 && (t342 == t354))))))))))) = true := by simpa using c16))
            (try (have c16b2 : (t333 == t345 && ((t334 == t346 && (t335 == t347 && (t336 == t348 && (t337 == t349 && (t338 == t350 && (t339 == t351 && (t340 == t352 && (t341 == t353 && (t342 == t354))))))))))) = true := by simpa using c16))
            clear c16
            by_cases c17 : t343 = t355
            · rw [if_pos c17] at H
              have c17b0 : (t343 == t355) = true := beq_iff_eq.mpr c17
              have c17b1 : (t343 != t355) = false := bne_eq_false_iff_eq.mpr c17
              clear c17
              replace H := Option.bind_eq_some_iff.mp H
              obtain ⟨⟨t361, t362, t363, t364, t365, t366, t367, t368, t369⟩, A180, H⟩ := H
              replace H : ((stickfulref06_First.f).bind fun bt370 => (if (t361 == bt370.1 && (t362 == bt370.2.1 && (t363 == bt370.2.2.1 && (t364 == bt370.2.2.2.1 && (t365 == bt370.2.2.2.2.1 && (t366 == bt370.2.2.2.2.2.1 && (t367 == bt370.2.2.2.2.2.2.1 && (t368 == bt370.2.2.2.2.2.2.2.1 && (t369 == bt370.2.2.2.2.2.2.2.2))))))))) = true then ((stickfullaw06_head.f k).bind fun t379 => (some t379)) else (some false))) = some r := H
              have A18 := Aside0.mk A180
              clear A180
              replace H := Option.bind_eq_some_iff.mp H
              obtain ⟨⟨t370, t371, t372, t373, t374, t375, t376, t377, t378⟩, A190, H⟩ := H
              replace H : (if (t361 == t370 && (t362 == t371 && (t363 == t372 && (t364 == t373 && (t365 == t374 && (t366 == t375 && (t367 == t376 && (t368 == t377 && (t369 == t378))))))))) = true then ((stickfullaw06_head.f k).bind fun t379 => (some t379)) else (some false)) = some r := H
              have A19 := Aside0.mk A190
              clear A190
              by_cases c20 : (t361 == t370 && (t362 == t371 && (t363 == t372 && (t364 == t373 && (t365 == t374 && (t366 == t375 && (t367 == t376 && (t368 == t377 && (t369 == t378))))))))) = true
              · rw [if_pos c20] at H
                have c20b0 : (t361 == t370 && (t362 == t371 && (t363 == t372 && (t364 == t373 && (t365 == t374 && (t366 == t375 && (t367 == t376 && (t368 == t377 && (t369 == t378))))))))) = true := c20
                (try (have c20b1 : decide (t361 = t370 && (t362 == t371 && (t363 == t372 && (t364 == t373 && (t365 == t374 && (t366 == t375 && (t367 == t376 && (t368 == t377 && (t369 == t378))))))))) = true := by simpa using c20))
                (try (have c20b2 : (t361 == t370 && (t362 == t371 && (t363 == t372 && (t364 == t373 && (t365 == t374 && (t366 == t375 && (t367 == t376 && (t368 == t377 && (t369 == t378))))))))) = true := by simpa using c20))
                clear c20
                replace H := Option.bind_eq_some_iff.mp H
                obtain ⟨t379, A210, H⟩ := H
                replace H : (some t379) = some r := H
                have A21 := Aside0.mk A210
                clear A210
                obtain rfl := Option.some.inj H
                go_enter Try.func3, Try.ntmps3
                try go_wp2_with (first | ((with_reducible refine gate_dst (N := 3) rfl ?_); refine box_event ?hg (N := 3) ?hd (cs := #[.int .u8 a0_0, .int .u8 a0_1, .int .u8 a0_2, .int .u8 a0_3, .int .i64 a0_4, .int .i64 a0_5, .int .i64 a0_6, .int .u8 a0_7, .int .i64 a0_8]) (t := 23) ?hr ?_; (case hd => rfl); (case hg => rfl); (case hr => first | (go_simp; done) | (go_simp; rfl)); intro gb308 hg w22 hbox hb; have BK308 := Aside0.mk (hbox); have GW308 := bge HB hg; have GE308 := bge HB hg; replace HB := bh HB hb; clear hb hbox hg) | ((with_reducible refine gate_dst (N := 4) rfl ?_); refine box_event ?hg (N := 4) ?hd (cs := #[.int .u16 a1_0, .int .u8 a1_1, .int .u8 a1_2, .int .u8 a1_3, .int .u8 a1_4, .int .i64 a1_5, .int .i64 a1_6, .int .i64 a1_7, .int .u8 a1_8, .int .i64 a1_9]) (t := 26) ?hr ?_; (case hd => rfl); (case hg => rfl); (case hr => first | (go_simp; done) | (go_simp; rfl)); intro gb309 hg w23 hbox hb; have BK309 := Aside0.mk (hbox); have GW309 := bge HB hg; have GE309 := bge HB hg; replace HB := bh HB hb; have NB308_309 := nbl BK308 hg; have NB309_308 := nbg BK308 hg; replace BK308 := bb BK308 hb; clear hb hbox hg) | ((with_reducible refine gate_dst (N := 5) rfl ?_); refine box_event ?hg (N := 5) ?hd (cs := #[.int .u16 a2_0, .int .u8 a2_1, .int .u8 a2_2, .int .u8 a2_3, .int .u8 a2_4, .int .i64 a2_5, .int .i64 a2_6, .int .i64 a2_7, .int .u8 a2_8, .int .i64 a2_9]) (t := 26) ?hr ?_; (case hd => rfl); (case hg => rfl); (case hr => first | (go_simp; done) | (go_simp; rfl)); intro gb310 hg w24 hbox hb; have BK310 := Aside0.mk (hbox); have GW310 := bge HB hg; have GE310 := bge HB hg; replace HB := bh HB hb; have NB308_310 := nbl BK308 hg; have NB310_308 := nbg BK308 hg; replace BK308 := bb BK308 hb; have NB309_310 := nbl BK309 hg; have NB310_309 := nbg BK309 hg; replace BK309 := bb BK309 hb; clear hb hbox hg; have hnb25 := NB308_309.out; have hnc25 := NB309_308.out; have hnb26 := NB308_310.out; have hnc26 := NB310_308.out; obtain ⟨hcz27_0, hcz27_1, hcz27_2, hcz27_3, hcz27_4, hcz27_5, hcz27_6, hcz27_7, hcz27_8⟩ := cz9 BK308; obtain ⟨hfz27_0, hfz27_1, hfz27_2, hfz27_3, hfz27_4, hfz27_5, hfz27_6, hfz27_7, hfz27_8⟩ := fz9 BK308; have hnb28 := NB309_310.out; have hnc28 := NB310_309.out; obtain ⟨hcz29_0, hcz29_1, hcz29_2, hcz29_3, hcz29_4, hcz29_5, hcz29_6, hcz29_7, hcz29_8, hcz29_9⟩ := cz10 BK309; obtain ⟨hfz29_0, hfz29_1, hfz29_2, hfz29_3, hfz29_4, hfz29_5, hfz29_6, hfz29_7, hfz29_8, hfz29_9⟩ := fz10 BK309) | ((with_reducible refine gate_callee (f := 12) rfl ?_); refine goesB (some 18) rfl rfl Try.func12 #[.agg #[.int .u8 a0_0, .int .u8 a0_1, .int .u8 a0_2, .int .u8 a0_3, .int .i64 a0_4, .int .i64 a0_5, .int .i64 a0_6, .int .u8 a0_7, .int .i64 a0_8], .agg #[.int .u16 a1_0, .int .u8 a1_1, .int .u8 a1_2, .int .u8 a1_3, .int .u8 a1_4, .int .i64 a1_5, .int .i64 a1_6, .int .i64 a1_7, .int .u8 a1_8, .int .i64 a1_9]] rfl ?_; (with_reducible refine (style_Resolve.calls a0_0 a0_1 a0_2 a0_3 a0_4 a0_5 a0_6 a0_7 a0_8 a1_0 a1_1 a1_2 a1_3 a1_4 a1_5 a1_6 a1_7 a1_8 a1_9 t311 t312 t313 t314 t315 t316 t317 t318 t319 t320 _ A4.out).mono ?_); rintro e w30 ⟨rfl, hb⟩; refine ⟨_, rfl, ?_⟩; replace BK308 := bb BK308 hb; replace BK309 := bb BK309 hb; replace BK310 := bb BK310 hb; replace HB := bh HB hb; (try clear hb); (try clear hb2); (try clear hk); (try clear hi)) | ((with_reducible refine gate_dst (N := 7) rfl ?_); refine box_event ?hg (N := 7) ?hd (cs := #[.int .u8 0, .int .u8 0, .int .u8 0, .int .u8 0, .int .i64 0, .int .i64 0, .int .i64 0, .int .u8 0, .int .i64 0]) (t := 23) ?hr ?_; (case hd => rfl); (case hg => rfl); (case hr => first | (go_simp; done) | (go_simp; rfl)); intro gb321 hg w31 hbox hb; have BK321 := Aside0.mk (hbox); have GW321 := bge HB hg; have GE321 := bge HB hg; replace HB := bh HB hb; have NB308_321 := nbl BK308 hg; have NB321_308 := nbg BK308 hg; replace BK308 := bb BK308 hb; have NB309_321 := nbl BK309 hg; have NB321_309 := nbg BK309 hg; replace BK309 := bb BK309 hb; have NB310_321 := nbl BK310 hg; have NB321_310 := nbg BK310 hg; replace BK310 := bb BK310 hb; clear hb hbox hg; have hnb32 := NB321_308.out; have hnc32 := NB308_321.out; have hnb33 := NB321_309.out; have hnc33 := NB309_321.out; have hnb34 := NB321_310.out; have hnc34 := NB310_321.out; obtain ⟨hcz35_0, hcz35_1, hcz35_2, hcz35_3, hcz35_4, hcz35_5, hcz35_6, hcz35_7, hcz35_8⟩ := cz9 BK321; obtain ⟨hfz35_0, hfz35_1, hfz35_2, hfz35_3, hfz35_4, hfz35_5, hfz35_6, hfz35_7, hfz35_8⟩ := fz9 BK321; obtain ⟨hcz36_0, hcz36_1, hcz36_2, hcz36_3, hcz36_4, hcz36_5, hcz36_6, hcz36_7, hcz36_8⟩ := cz9 BK308; obtain ⟨hfz36_0, hfz36_1, hfz36_2, hfz36_3, hfz36_4, hfz36_5, hfz36_6, hfz36_7, hfz36_8⟩ := fz9 BK308; obtain ⟨hcz37_0, hcz37_1, hcz37_2, hcz37_3, hcz37_4, hcz37_5, hcz37_6, hcz37_7, hcz37_8, hcz37_9⟩ := cz10 BK309; obtain ⟨hfz37_0, hfz37_1, hfz37_2, hfz37_3, hfz37_4, hfz37_5, hfz37_6, hfz37_7, hfz37_8, hfz37_9⟩ := fz10 BK309) | ((with_reducible refine gate_callee (f := 13) rfl ?_); refine goesB (some 24) rfl rfl Try.func13 #[.agg #[.int .u8 a0_0, .int .u8 a0_1, .int .u8 a0_2, .int .u8 a0_3, .int .i64 a0_4, .int .i64 a0_5, .int .i64 a0_6, .int .u8 a0_7, .int .i64 a0_8], .agg #[.int .u16 a1_0, .int .u8 a1_1, .int .u8 a1_2, .int .u8 a1_3, .int .u8 a1_4, .int .i64 a1_5, .int .i64 a1_6, .int .i64 a1_7, .int .u8 a1_8, .int .i64 a1_9]] rfl ?_; (with_reducible refine (stickfulref06_Resolve.calls k a0_0 a0_1 a0_2 a0_3 a0_4 a0_5 a0_6 a0_7 a0_8 a1_0 a1_1 a1_2 a1_3 a1_4 a1_5 a1_6 a1_7 a1_8 a1_9 t322 t323 t324 t325 t326 t327 t328 t329 t330 t331 _ A5.out).mono ?_); rintro e w38 ⟨rfl, hb⟩; refine ⟨_, rfl, ?_⟩; replace BK308 := bb BK308 hb; replace BK309 := bb BK309 hb; replace BK310 := bb BK310 hb; replace BK321 := Aside0.mk (blk_below (o := .cells #[.int .u8 t311, .int .u8 t312, .int .u8 t313, .int .u8 t314, .int .i64 t315, .int .i64 t316, .int .i64 t317, .int .u8 t318, .int .i64 t319] 23 (0, 0)) (bp BK321) hb); replace HB := bh HB hb; (try clear hb); (try clear hb2); (try clear hk); (try clear hi)) | ((with_reducible refine gate_dst (N := 9) rfl ?_); refine box_event ?hg (N := 9) ?hd (cs := #[.int .u8 0, .int .u8 0, .int .u8 0, .int .u8 0, .int .i64 0, .int .i64 0, .int .i64 0, .int .u8 0, .int .i64 0]) (t := 23) ?hr ?_; (case hd => rfl); (case hg => rfl); (case hr => first | (go_simp; done) | (go_simp; rfl)); intro gb332 hg w39 hbox hb; have BK332 := Aside0.mk (hbox); have GW332 := bge HB hg; have GE332 := bge HB hg; replace HB := bh HB hb; have NB308_332 := nbl BK308 hg; have NB332_308 := nbg BK308 hg; replace BK308 := bb BK308 hb; have NB309_332 := nbl BK309 hg; have NB332_309 := nbg BK309 hg; replace BK309 := bb BK309 hb; have NB310_332 := nbl BK310 hg; have NB332_310 := nbg BK310 hg; replace BK310 := bb BK310 hb; have NB321_332 := nbl BK321 hg; have NB332_321 := nbg BK321 hg; replace BK321 := bb BK321 hb; clear hb hbox hg; have hnb40 := NB332_308.out; have hnc40 := NB308_332.out; have hnb41 := NB332_309.out; have hnc41 := NB309_332.out; have hnb42 := NB332_310.out; have hnc42 := NB310_332.out; have hnb43 := NB332_321.out; have hnc43 := NB321_332.out; obtain ⟨hcz44_0, hcz44_1, hcz44_2, hcz44_3, hcz44_4, hcz44_5, hcz44_6, hcz44_7, hcz44_8⟩ := cz9 BK332; obtain ⟨hfz44_0, hfz44_1, hfz44_2, hfz44_3, hfz44_4, hfz44_5, hfz44_6, hfz44_7, hfz44_8⟩ := fz9 BK332; obtain ⟨hcz45_0, hcz45_1, hcz45_2, hcz45_3, hcz45_4, hcz45_5, hcz45_6, hcz45_7, hcz45_8, hcz45_9⟩ := cz10 BK309; obtain ⟨hfz45_0, hfz45_1, hfz45_2, hfz45_3, hfz45_4, hfz45_5, hfz45_6, hfz45_7, hfz45_8, hfz45_9⟩ := fz10 BK309; obtain ⟨hcz46_0, hcz46_1, hcz46_2, hcz46_3, hcz46_4, hcz46_5, hcz46_6, hcz46_7, hcz46_8, hcz46_9⟩ := cz10 BK310; obtain ⟨hfz46_0, hfz46_1, hfz46_2, hfz46_3, hfz46_4, hfz46_5, hfz46_6, hfz46_7, hfz46_8, hfz46_9⟩ := fz10 BK310) | ((with_reducible refine gate_callee (f := 14) rfl ?_); refine goesB (some 30) rfl rfl Try.func14 #[.agg #[.int .u16 a1_0, .int .u8 a1_1, .int .u8 a1_2, .int .u8 a1_3, .int .u8 a1_4, .int .i64 a1_5, .int .i64 a1_6, .int .i64 a1_7, .int .u8 a1_8, .int .i64 a1_9], .agg #[.int .u16 a2_0, .int .u8 a2_1, .int .u8 a2_2, .int .u8 a2_3, .int .u8 a2_4, .int .i64 a2_5, .int .i64 a2_6, .int .i64 a2_7, .int .u8 a2_8, .int .i64 a2_9]] rfl ?_; (with_reducible refine (style_Merge.calls a1_0 a1_1 a1_2 a1_3 a1_4 a1_5 a1_6 a1_7 a1_8 a1_9 a2_0 a2_1 a2_2 a2_3 a2_4 a2_5 a2_6 a2_7 a2_8 a2_9 t333 t334 t335 t336 t337 t338 t339 t340 t341 t342 t343 _ A6.out).mono ?_); rintro e w47 ⟨rfl, hb⟩; refine ⟨_, rfl, ?_⟩; replace BK308 := bb BK308 hb; replace BK309 := bb BK309 hb; replace BK310 := bb BK310 hb; replace BK321 := bb BK321 hb; replace BK332 := Aside0.mk (blk_below (o := .cells #[.int .u8 t322, .int .u8 t323, .int .u8 t324, .int .u8 t325, .int .i64 t326, .int .i64 t327, .int .i64 t328, .int .u8 t329, .int .i64 t330] 23 (0, 0)) (bp BK332) hb); replace HB := bh HB hb; (try clear hb); (try clear hb2); (try clear hk); (try clear hi)) | ((with_reducible refine gate_dst (N := 11) rfl ?_); refine box_event ?hg (N := 11) ?hd (cs := #[.int .u16 0, .int .u8 0, .int .u8 0, .int .u8 0, .int .u8 0, .int .i64 0, .int .i64 0, .int .i64 0, .int .u8 0, .int .i64 0]) (t := 26) ?hr ?_; (case hd => rfl); (case hg => rfl); (case hr => first | (go_simp; done) | (go_simp; rfl)); intro gb344 hg w48 hbox hb; have BK344 := Aside0.mk (hbox); have GW344 := bge HB hg; have GE344 := bge HB hg; replace HB := bh HB hb; have NB308_344 := nbl BK308 hg; have NB344_308 := nbg BK308 hg; replace BK308 := bb BK308 hb; have NB309_344 := nbl BK309 hg; have NB344_309 := nbg BK309 hg; replace BK309 := bb BK309 hb; have NB310_344 := nbl BK310 hg; have NB344_310 := nbg BK310 hg; replace BK310 := bb BK310 hb; have NB321_344 := nbl BK321 hg; have NB344_321 := nbg BK321 hg; replace BK321 := bb BK321 hb; have NB332_344 := nbl BK332 hg; have NB344_332 := nbg BK332 hg; replace BK332 := bb BK332 hb; clear hb hbox hg; have hnb49 := NB344_308.out; have hnc49 := NB308_344.out; have hnb50 := NB344_309.out; have hnc50 := NB309_344.out; have hnb51 := NB344_310.out; have hnc51 := NB310_344.out; have hnb52 := NB344_321.out; have hnc52 := NB321_344.out; have hnb53 := NB344_332.out; have hnc53 := NB332_344.out; obtain ⟨hcz54_0, hcz54_1, hcz54_2, hcz54_3, hcz54_4, hcz54_5, hcz54_6, hcz54_7, hcz54_8, hcz54_9⟩ := cz10 BK344; obtain ⟨hfz54_0, hfz54_1, hfz54_2, hfz54_3, hfz54_4, hfz54_5, hfz54_6, hfz54_7, hfz54_8, hfz54_9⟩ := fz10 BK344; obtain ⟨hcz55_0, hcz55_1, hcz55_2, hcz55_3, hcz55_4, hcz55_5, hcz55_6, hcz55_7, hcz55_8, hcz55_9⟩ := cz10 BK309; obtain ⟨hfz55_0, hfz55_1, hfz55_2, hfz55_3, hfz55_4, hfz55_5, hfz55_6, hfz55_7, hfz55_8, hfz55_9⟩ := fz10 BK309; obtain ⟨hcz56_0, hcz56_1, hcz56_2, hcz56_3, hcz56_4, hcz56_5, hcz56_6, hcz56_7, hcz56_8, hcz56_9⟩ := cz10 BK310; obtain ⟨hfz56_0, hfz56_1, hfz56_2, hfz56_3, hfz56_4, hfz56_5, hfz56_6, hfz56_7, hfz56_8, hfz56_9⟩ := fz10 BK310) | ((with_reducible refine gate_callee (f := 15) rfl ?_); refine goesB (some 36) rfl rfl Try.func15 #[.agg #[.int .u16 a1_0, .int .u8 a1_1, .int .u8 a1_2, .int .u8 a1_3, .int .u8 a1_4, .int .i64 a1_5, .int .i64 a1_6, .int .i64 a1_7, .int .u8 a1_8, .int .i64 a1_9], .agg #[.int .u16 a2_0, .int .u8 a2_1, .int .u8 a2_2, .int .u8 a2_3, .int .u8 a2_4, .int .i64 a2_5, .int .i64 a2_6, .int .i64 a2_7, .int .u8 a2_8, .int .i64 a2_9]] rfl ?_; (with_reducible refine (stickfulref06_Merge.calls k a1_0 a1_1 a1_2 a1_3 a1_4 a1_5 a1_6 a1_7 a1_8 a1_9 a2_0 a2_1 a2_2 a2_3 a2_4 a2_5 a2_6 a2_7 a2_8 a2_9 t345 t346 t347 t348 t349 t350 t351 t352 t353 t354 t355 _ A7.out).mono ?_); rintro e w57 ⟨rfl, hb⟩; refine ⟨_, rfl, ?_⟩; replace BK308 := bb BK308 hb; replace BK309 := bb BK309 hb; replace BK310 := bb BK310 hb; replace BK321 := bb BK321 hb; replace BK332 := bb BK332 hb; replace BK344 := Aside0.mk (blk_below (o := .cells #[.int .u16 t333, .int .u8 t334, .int .u8 t335, .int .u8 t336, .int .u8 t337, .int .i64 t338, .int .i64 t339, .int .i64 t340, .int .u8 t341, .int .i64 t342] 26 (0, 0)) (bp BK344) hb); replace HB := bh HB hb; (try clear hb); (try clear hb2); (try clear hk); (try clear hi)) | ((with_reducible refine gate_dst (N := 13) rfl ?_); refine box_event ?hg (N := 13) ?hd (cs := #[.int .u16 0, .int .u8 0, .int .u8 0, .int .u8 0, .int .u8 0, .int .i64 0, .int .i64 0, .int .i64 0, .int .u8 0, .int .i64 0]) (t := 26) ?hr ?_; (case hd => rfl); (case hg => rfl); (case hr => first | (go_simp; done) | (go_simp; rfl)); intro gb356 hg w58 hbox hb; have BK356 := Aside0.mk (hbox); have GW356 := bge HB hg; have GE356 := bge HB hg; replace HB := bh HB hb; have NB308_356 := nbl BK308 hg; have NB356_308 := nbg BK308 hg; replace BK308 := bb BK308 hb; have NB309_356 := nbl BK309 hg; have NB356_309 := nbg BK309 hg; replace BK309 := bb BK309 hb; have NB310_356 := nbl BK310 hg; have NB356_310 := nbg BK310 hg; replace BK310 := bb BK310 hb; have NB321_356 := nbl BK321 hg; have NB356_321 := nbg BK321 hg; replace BK321 := bb BK321 hb; have NB332_356 := nbl BK332 hg; have NB356_332 := nbg BK332 hg; replace BK332 := bb BK332 hb; have NB344_356 := nbl BK344 hg; have NB356_344 := nbg BK344 hg; replace BK344 := bb BK344 hb; clear hb hbox hg; have hnb59 := NB356_308.out; have hnc59 := NB308_356.out; have hnb60 := NB356_309.out; have hnc60 := NB309_356.out; have hnb61 := NB356_310.out; have hnc61 := NB310_356.out; have hnb62 := NB356_321.out; have hnc62 := NB321_356.out; have hnb63 := NB356_332.out; have hnc63 := NB332_356.out; have hnb64 := NB356_344.out; have hnc64 := NB344_356.out; obtain ⟨hcz65_0, hcz65_1, hcz65_2, hcz65_3, hcz65_4, hcz65_5, hcz65_6, hcz65_7, hcz65_8, hcz65_9⟩ := cz10 BK356; obtain ⟨hfz65_0, hfz65_1, hfz65_2, hfz65_3, hfz65_4, hfz65_5, hfz65_6, hfz65_7, hfz65_8, hfz65_9⟩ := fz10 BK356))
                have n0_ : Aside0 (((((((((((w58.setCell ⟨gb356, 0, none⟩ (.int .u16 t345)).setCell ⟨gb356, 1, none⟩ (.int .u8 t346)).setCell ⟨gb356, 2, none⟩ (.int .u8 t347)).setCell ⟨gb356, 3, none⟩ (.int .u8 t348)).setCell ⟨gb356, 4, none⟩ (.int .u8 t349)).setCell ⟨gb356, 5, none⟩ (.int .i64 t350)).setCell ⟨gb356, 6, none⟩ (.int .i64 t351)).setCell ⟨gb356, 7, none⟩ (.int .i64 t352)).setCell ⟨gb356, 8, none⟩ (.int .u8 t353)).setCell ⟨gb356, 9, none⟩ (.int .i64 t354)).heap[gb308]? = some (.cells #[.int .u8 a0_0, .int .u8 a0_1, .int .u8 a0_2, .int .u8 a0_3, .int .i64 a0_4, .int .i64 a0_5, .int .i64 a0_6, .int .u8 a0_7, .int .i64 a0_8] 23 (0, 0))) := ⟨by (with_reducible repeat (first | refine blk_drewN ?_ _ | refine blk_drew ?_ | refine blk_alloc ?_ _)); refine blk_far ?_ NB308_356.out _; (with_reducible repeat (first | refine blk_drewN ?_ _ | refine blk_drew ?_ | refine blk_alloc ?_ _)); refine blk_far ?_ NB308_356.out _; (with_reducible repeat (first | refine blk_drewN ?_ _ | refine blk_drew ?_ | refine blk_alloc ?_ _)); refine blk_far ?_ NB308_356.out _; (with_reducible repeat (first | refine blk_drewN ?_ _ | refine blk_drew ?_ | refine blk_alloc ?_ _)); refine blk_far ?_ NB308_356.out _; (with_reducible repeat (first | refine blk_drewN ?_ _ | refine blk_drew ?_ | refine blk_alloc ?_ _)); refine blk_far ?_ NB308_356.out _; (with_reducible repeat (first | refine blk_drewN ?_ _ | refine blk_drew ?_ | refine blk_alloc ?_ _)); refine blk_far ?_ NB308_356.out _; (with_reducible repeat (first | refine blk_drewN ?_ _ | refine blk_drew ?_ | refine blk_alloc ?_ _)); refine blk_far ?_ NB308_356.out _; (with_reducible repeat (first | refine blk_drewN ?_ _ | refine blk_drew ?_ | refine blk_alloc ?_ _)); refine blk_far ?_ NB308_356.out _; (with_reducible repeat (first | refine blk_drewN ?_ _ | refine blk_drew ?_ | refine blk_alloc ?_ _)); refine blk_far ?_ NB308_356.out _; (with_reducible repeat (first | refine blk_drewN ?_ _ | refine blk_drew ?_ | refine blk_alloc ?_ _)); refine blk_far ?_ NB308_356.out _; (with_reducible repeat (first | refine blk_drewN ?_ _ | refine blk_drew ?_ | refine blk_alloc ?_ _)); exact BK308.out⟩
                have n1_ : Aside0 (((((((((((w58.setCell ⟨gb356, 0, none⟩ (.int .u16 t345)).setCell ⟨gb356, 1, none⟩ (.int .u8 t346)).setCell ⟨gb356, 2, none⟩ (.int .u8 t347)).setCell ⟨gb356, 3, none⟩ (.int .u8 t348)).setCell ⟨gb356, 4, none⟩ (.int .u8 t349)).setCell ⟨gb356, 5, none⟩ (.int .i64 t350)).setCell ⟨gb356, 6, none⟩ (.int .i64 t351)).setCell ⟨gb356, 7, none⟩ (.int .i64 t352)).setCell ⟨gb356, 8, none⟩ (.int .u8 t353)).setCell ⟨gb356, 9, none⟩ (.int .i64 t354)).heap[gb309]? = some (.cells #[.int .u16 a1_0, .int .u8 a1_1, .int .u8 a1_2, .int .u8 a1_3, .int .u8 a1_4, .int .i64 a1_5, .int .i64 a1_6, .int .i64 a1_7, .int .u8 a1_8, .int .i64 a1_9] 26 (0, 0))) := ⟨by (with_reducible repeat (first | refine blk_drewN ?_ _ | refine blk_drew ?_ | refine blk_alloc ?_ _)); refine blk_far ?_ NB309_356.out _; (with_reducible repeat (first | refine blk_drewN ?_ _ | refine blk_drew ?_ | refine blk_alloc ?_ _)); refine blk_far ?_ NB309_356.out _; (with_reducible repeat (first | refine blk_drewN ?_ _ | refine blk_drew ?_ | refine blk_alloc ?_ _)); refine blk_far ?_ NB309_356.out _; (with_reducible repeat (first | refine blk_drewN ?_ _ | refine blk_drew ?_ | refine blk_alloc ?_ _)); refine blk_far ?_ NB309_356.out _; (with_reducible repeat (first | refine blk_drewN ?_ _ | refine blk_drew ?_ | refine blk_alloc ?_ _)); refine blk_far ?_ NB309_356.out _; (with_reducible repeat (first | refine blk_drewN ?_ _ | refine blk_drew ?_ | refine blk_alloc ?_ _)); refine blk_far ?_ NB309_356.out _; (with_reducible repeat (first | refine blk_drewN ?_ _ | refine blk_drew ?_ | refine blk_alloc ?_ _)); refine blk_far ?_ NB309_356.out _; (with_reducible repeat (first | refine blk_drewN ?_ _ | refine blk_drew ?_ | refine blk_alloc ?_ _)); refine blk_far ?_ NB309_356.out _; (with_reducible repeat (first | refine blk_drewN ?_ _ | refine blk_drew ?_ | refine blk_alloc ?_ _)); refine blk_far ?_ NB309_356.out _; (with_reducible repeat (first | refine blk_drewN ?_ _ | refine blk_drew ?_ | refine blk_alloc ?_ _)); refine blk_far ?_ NB309_356.out _; (with_reducible repeat (first | refine blk_drewN ?_ _ | refine blk_drew ?_ | refine blk_alloc ?_ _)); exact BK309.out⟩
                have n2_ : Aside0 (((((((((((w58.setCell ⟨gb356, 0, none⟩ (.int .u16 t345)).setCell ⟨gb356, 1, none⟩ (.int .u8 t346)).setCell ⟨gb356, 2, none⟩ (.int .u8 t347)).setCell ⟨gb356, 3, none⟩ (.int .u8 t348)).setCell ⟨gb356, 4, none⟩ (.int .u8 t349)).setCell ⟨gb356, 5, none⟩ (.int .i64 t350)).setCell ⟨gb356, 6, none⟩ (.int .i64 t351)).setCell ⟨gb356, 7, none⟩ (.int .i64 t352)).setCell ⟨gb356, 8, none⟩ (.int .u8 t353)).setCell ⟨gb356, 9, none⟩ (.int .i64 t354)).heap[gb310]? = some (.cells #[.int .u16 a2_0, .int .u8 a2_1, .int .u8 a2_2, .int .u8 a2_3, .int .u8 a2_4, .int .i64 a2_5, .int .i64 a2_6, .int .i64 a2_7, .int .u8 a2_8, .int .i64 a2_9] 26 (0, 0))) := ⟨by (with_reducible repeat (first | refine blk_drewN ?_ _ | refine blk_drew ?_ | refine blk_alloc ?_ _)); refine blk_far ?_ NB310_356.out _; (with_reducible repeat (first | refine blk_drewN ?_ _ | refine blk_drew ?_ | refine blk_alloc ?_ _)); refine blk_far ?_ NB310_356.out _; (with_reducible repeat (first | refine blk_drewN ?_ _ | refine blk_drew ?_ | refine blk_alloc ?_ _)); refine blk_far ?_ NB310_356.out _; (with_reducible repeat (first | refine blk_drewN ?_ _ | refine blk_drew ?_ | refine blk_alloc ?_ _)); refine blk_far ?_ NB310_356.out _; (with_reducible repeat (first | refine blk_drewN ?_ _ | refine blk_drew ?_ | refine blk_alloc ?_ _)); refine blk_far ?_ NB310_356.out _; (with_reducible repeat (first | refine blk_drewN ?_ _ | refine blk_drew ?_ | refine blk_alloc ?_ _)); refine blk_far ?_ NB310_356.out _; (with_reducible repeat (first | refine blk_drewN ?_ _ | refine blk_drew ?_ | refine blk_alloc ?_ _)); refine blk_far ?_ NB310_356.out _; (with_reducible repeat (first | refine blk_drewN ?_ _ | refine blk_drew ?_ | refine blk_alloc ?_ _)); refine blk_far ?_ NB310_356.out _; (with_reducible repeat (first | refine blk_drewN ?_ _ | refine blk_drew ?_ | refine blk_alloc ?_ _)); refine blk_far ?_ NB310_356.out _; (with_reducible repeat (first | refine blk_drewN ?_ _ | refine blk_drew ?_ | refine blk_alloc ?_ _)); refine blk_far ?_ NB310_356.out _; (with_reducible repeat (first | refine blk_drewN ?_ _ | refine blk_drew ?_ | refine blk_alloc ?_ _)); exact BK310.out⟩
                have n3_ : Aside0 (((((((((((w58.setCell ⟨gb356, 0, none⟩ (.int .u16 t345)).setCell ⟨gb356, 1, none⟩ (.int .u8 t346)).setCell ⟨gb356, 2, none⟩ (.int .u8 t347)).setCell ⟨gb356, 3, none⟩ (.int .u8 t348)).setCell ⟨gb356, 4, none⟩ (.int .u8 t349)).setCell ⟨gb356, 5, none⟩ (.int .i64 t350)).setCell ⟨gb356, 6, none⟩ (.int .i64 t351)).setCell ⟨gb356, 7, none⟩ (.int .i64 t352)).setCell ⟨gb356, 8, none⟩ (.int .u8 t353)).setCell ⟨gb356, 9, none⟩ (.int .i64 t354)).heap[gb321]? = some (.cells #[.int .u8 t311, .int .u8 t312, .int .u8 t313, .int .u8 t314, .int .i64 t315, .int .i64 t316, .int .i64 t317, .int .u8 t318, .int .i64 t319] 23 (0, 0))) := ⟨by (with_reducible repeat (first | refine blk_drewN ?_ _ | refine blk_drew ?_ | refine blk_alloc ?_ _)); refine blk_far ?_ NB321_356.out _; (with_reducible repeat (first | refine blk_drewN ?_ _ | refine blk_drew ?_ | refine blk_alloc ?_ _)); refine blk_far ?_ NB321_356.out _; (with_reducible repeat (first | refine blk_drewN ?_ _ | refine blk_drew ?_ | refine blk_alloc ?_ _)); refine blk_far ?_ NB321_356.out _; (with_reducible repeat (first | refine blk_drewN ?_ _ | refine blk_drew ?_ | refine blk_alloc ?_ _)); refine blk_far ?_ NB321_356.out _; (with_reducible repeat (first | refine blk_drewN ?_ _ | refine blk_drew ?_ | refine blk_alloc ?_ _)); refine blk_far ?_ NB321_356.out _; (with_reducible repeat (first | refine blk_drewN ?_ _ | refine blk_drew ?_ | refine blk_alloc ?_ _)); refine blk_far ?_ NB321_356.out _; (with_reducible repeat (first | refine blk_drewN ?_ _ | refine blk_drew ?_ | refine blk_alloc ?_ _)); refine blk_far ?_ NB321_356.out _; (with_reducible repeat (first | refine blk_drewN ?_ _ | refine blk_drew ?_ | refine blk_alloc ?_ _)); refine blk_far ?_ NB321_356.out _; (with_reducible repeat (first | refine blk_drewN ?_ _ | refine blk_drew ?_ | refine blk_alloc ?_ _)); refine blk_far ?_ NB321_356.out _; (with_reducible repeat (first | refine blk_drewN ?_ _ | refine blk_drew ?_ | refine blk_alloc ?_ _)); refine blk_far ?_ NB321_356.out _; (with_reducible repeat (first | refine blk_drewN ?_ _ | refine blk_drew ?_ | refine blk_alloc ?_ _)); exact BK321.out⟩
                have n4_ : Aside0 (((((((((((w58.setCell ⟨gb356, 0, none⟩ (.int .u16 t345)).setCell ⟨gb356, 1, none⟩ (.int .u8 t346)).setCell ⟨gb356, 2, none⟩ (.int .u8 t347)).setCell ⟨gb356, 3, none⟩ (.int .u8 t348)).setCell ⟨gb356, 4, none⟩ (.int .u8 t349)).setCell ⟨gb356, 5, none⟩ (.int .i64 t350)).setCell ⟨gb356, 6, none⟩ (.int .i64 t351)).setCell ⟨gb356, 7, none⟩ (.int .i64 t352)).setCell ⟨gb356, 8, none⟩ (.int .u8 t353)).setCell ⟨gb356, 9, none⟩ (.int .i64 t354)).heap[gb332]? = some (.cells #[.int .u8 t322, .int .u8 t323, .int .u8 t324, .int .u8 t325, .int .i64 t326, .int .i64 t327, .int .i64 t328, .int .u8 t329, .int .i64 t330] 23 (0, 0))) := ⟨by (with_reducible repeat (first | refine blk_drewN ?_ _ | refine blk_drew ?_ | refine blk_alloc ?_ _)); refine blk_far ?_ NB332_356.out _; (with_reducible repeat (first | refine blk_drewN ?_ _ | refine blk_drew ?_ | refine blk_alloc ?_ _)); refine blk_far ?_ NB332_356.out _; (with_reducible repeat (first | refine blk_drewN ?_ _ | refine blk_drew ?_ | refine blk_alloc ?_ _)); refine blk_far ?_ NB332_356.out _; (with_reducible repeat (first | refine blk_drewN ?_ _ | refine blk_drew ?_ | refine blk_alloc ?_ _)); refine blk_far ?_ NB332_356.out _; (with_reducible repeat (first | refine blk_drewN ?_ _ | refine blk_drew ?_ | refine blk_alloc ?_ _)); refine blk_far ?_ NB332_356.out _; (with_reducible repeat (first | refine blk_drewN ?_ _ | refine blk_drew ?_ | refine blk_alloc ?_ _)); refine blk_far ?_ NB332_356.out _; (with_reducible repeat (first | refine blk_drewN ?_ _ | refine blk_drew ?_ | refine blk_alloc ?_ _)); refine blk_far ?_ NB332_356.out _; (with_reducible repeat (first | refine blk_drewN ?_ _ | refine blk_drew ?_ | refine blk_alloc ?_ _)); refine blk_far ?_ NB332_356.out _; (with_reducible repeat (first | refine blk_drewN ?_ _ | refine blk_drew ?_ | refine blk_alloc ?_ _)); refine blk_far ?_ NB332_356.out _; (with_reducible repeat (first | refine blk_drewN ?_ _ | refine blk_drew ?_ | refine blk_alloc ?_ _)); refine blk_far ?_ NB332_356.out _; (with_reducible repeat (first | refine blk_drewN ?_ _ | refine blk_drew ?_ | refine blk_alloc ?_ _)); exact BK332.out⟩
                have n5_ : Aside0 (((((((((((w58.setCell ⟨gb356, 0, none⟩ (.int .u16 t345)).setCell ⟨gb356, 1, none⟩ (.int .u8 t346)).setCell ⟨gb356, 2, none⟩ (.int .u8 t347)).setCell ⟨gb356, 3, none⟩ (.int .u8 t348)).setCell ⟨gb356, 4, none⟩ (.int .u8 t349)).setCell ⟨gb356, 5, none⟩ (.int .i64 t350)).setCell ⟨gb356, 6, none⟩ (.int .i64 t351)).setCell ⟨gb356, 7, none⟩ (.int .i64 t352)).setCell ⟨gb356, 8, none⟩ (.int .u8 t353)).setCell ⟨gb356, 9, none⟩ (.int .i64 t354)).heap[gb344]? = some (.cells #[.int .u16 t333, .int .u8 t334, .int .u8 t335, .int .u8 t336, .int .u8 t337, .int .i64 t338, .int .i64 t339, .int .i64 t340, .int .u8 t341, .int .i64 t342] 26 (0, 0))) := ⟨by (with_reducible repeat (first | refine blk_drewN ?_ _ | refine blk_drew ?_ | refine blk_alloc ?_ _)); refine blk_far ?_ NB344_356.out _; (with_reducible repeat (first | refine blk_drewN ?_ _ | refine blk_drew ?_ | refine blk_alloc ?_ _)); refine blk_far ?_ NB344_356.out _; (with_reducible repeat (first | refine blk_drewN ?_ _ | refine blk_drew ?_ | refine blk_alloc ?_ _)); refine blk_far ?_ NB344_356.out _; (with_reducible repeat (first | refine blk_drewN ?_ _ | refine blk_drew ?_ | refine blk_alloc ?_ _)); refine blk_far ?_ NB344_356.out _; (with_reducible repeat (first | refine blk_drewN ?_ _ | refine blk_drew ?_ | refine blk_alloc ?_ _)); refine blk_far ?_ NB344_356.out _; (with_reducible repeat (first | refine blk_drewN ?_ _ | refine blk_drew ?_ | refine blk_alloc ?_ _)); refine blk_far ?_ NB344_356.out _; (with_reducible repeat (first | refine blk_drewN ?_ _ | refine blk_drew ?_ | refine blk_alloc ?_ _)); refine blk_far ?_ NB344_356.out _; (with_reducible repeat (first | refine blk_drewN ?_ _ | refine blk_drew ?_ | refine blk_alloc ?_ _)); refine blk_far ?_ NB344_356.out _; (with_reducible repeat (first | refine blk_drewN ?_ _ | refine blk_drew ?_ | refine blk_alloc ?_ _)); refine blk_far ?_ NB344_356.out _; (with_reducible repeat (first | refine blk_drewN ?_ _ | refine blk_drew ?_ | refine blk_alloc ?_ _)); refine blk_far ?_ NB344_356.out _; (with_reducible repeat (first | refine blk_drewN ?_ _ | refine blk_drew ?_ | refine blk_alloc ?_ _)); exact BK344.out⟩
                have n6_ : Aside0 (((((((((((w58.setCell ⟨gb356, 0, none⟩ (.int .u16 t345)).setCell ⟨gb356, 1, none⟩ (.int .u8 t346)).setCell ⟨gb356, 2, none⟩ (.int .u8 t347)).setCell ⟨gb356, 3, none⟩ (.int .u8 t348)).setCell ⟨gb356, 4, none⟩ (.int .u8 t349)).setCell ⟨gb356, 5, none⟩ (.int .i64 t350)).setCell ⟨gb356, 6, none⟩ (.int .i64 t351)).setCell ⟨gb356, 7, none⟩ (.int .i64 t352)).setCell ⟨gb356, 8, none⟩ (.int .u8 t353)).setCell ⟨gb356, 9, none⟩ (.int .i64 t354)).heap[gb356]? = some (.cells #[.int .u16 t345, .int .u8 t346, .int .u8 t347, .int .u8 t348, .int .u8 t349, .int .i64 t350, .int .i64 t351, .int .i64 t352, .int .u8 t353, .int .i64 t354] 26 (0, 0))) := ⟨by (with_reducible repeat (first | refine blk_drewN ?_ _ | refine blk_drew ?_ | refine blk_alloc ?_ _)); refine blk_put (cs := #[.int .u16 t345, .int .u8 t346, .int .u8 t347, .int .u8 t348, .int .u8 t349, .int .i64 t350, .int .i64 t351, .int .i64 t352, .int .u8 t353, .int .i64 0]) ?_ 9 _ rfl; (with_reducible repeat (first | refine blk_drewN ?_ _ | refine blk_drew ?_ | refine blk_alloc ?_ _)); refine blk_put (cs := #[.int .u16 t345, .int .u8 t346, .int .u8 t347, .int .u8 t348, .int .u8 t349, .int .i64 t350, .int .i64 t351, .int .i64 t352, .int .u8 0, .int .i64 0]) ?_ 8 _ rfl; (with_reducible repeat (first | refine blk_drewN ?_ _ | refine blk_drew ?_ | refine blk_alloc ?_ _)); refine blk_put (cs := #[.int .u16 t345, .int .u8 t346, .int .u8 t347, .int .u8 t348, .int .u8 t349, .int .i64 t350, .int .i64 t351, .int .i64 0, .int .u8 0, .int .i64 0]) ?_ 7 _ rfl; (with_reducible repeat (first | refine blk_drewN ?_ _ | refine blk_drew ?_ | refine blk_alloc ?_ _)); refine blk_put (cs := #[.int .u16 t345, .int .u8 t346, .int .u8 t347, .int .u8 t348, .int .u8 t349, .int .i64 t350, .int .i64 0, .int .i64 0, .int .u8 0, .int .i64 0]) ?_ 6 _ rfl; (with_reducible repeat (first | refine blk_drewN ?_ _ | refine blk_drew ?_ | refine blk_alloc ?_ _)); refine blk_put (cs := #[.int .u16 t345, .int .u8 t346, .int .u8 t347, .int .u8 t348, .int .u8 t349, .int .i64 0, .int .i64 0, .int .i64 0, .int .u8 0, .int .i64 0]) ?_ 5 _ rfl; (with_reducible repeat (first | refine blk_drewN ?_ _ | refine blk_drew ?_ | refine blk_alloc ?_ _)); refine blk_put (cs := #[.int .u16 t345, .int .u8 t346, .int .u8 t347, .int .u8 t348, .int .u8 0, .int .i64 0, .int .i64 0, .int .i64 0, .int .u8 0, .int .i64 0]) ?_ 4 _ rfl; (with_reducible repeat (first | refine blk_drewN ?_ _ | refine blk_drew ?_ | refine blk_alloc ?_ _)); refine blk_put (cs := #[.int .u16 t345, .int .u8 t346, .int .u8 t347, .int .u8 0, .int .u8 0, .int .i64 0, .int .i64 0, .int .i64 0, .int .u8 0, .int .i64 0]) ?_ 3 _ rfl; (with_reducible repeat (first | refine blk_drewN ?_ _ | refine blk_drew ?_ | refine blk_alloc ?_ _)); refine blk_put (cs := #[.int .u16 t345, .int .u8 t346, .int .u8 0, .int .u8 0, .int .u8 0, .int .i64 0, .int .i64 0, .int .i64 0, .int .u8 0, .int .i64 0]) ?_ 2 _ rfl; (with_reducible repeat (first | refine blk_drewN ?_ _ | refine blk_drew ?_ | refine blk_alloc ?_ _)); refine blk_put (cs := #[.int .u16 t345, .int .u8 0, .int .u8 0, .int .u8 0, .int .u8 0, .int .i64 0, .int .i64 0, .int .i64 0, .int .u8 0, .int .i64 0]) ?_ 1 _ rfl; (with_reducible repeat (first | refine blk_drewN ?_ _ | refine blk_drew ?_ | refine blk_alloc ?_ _)); refine blk_put (cs := #[.int .u16 0, .int .u8 0, .int .u8 0, .int .u8 0, .int .u8 0, .int .i64 0, .int .i64 0, .int .i64 0, .int .u8 0, .int .i64 0]) ?_ 0 _ rfl; (with_reducible repeat (first | refine blk_drewN ?_ _ | refine blk_drew ?_ | refine blk_alloc ?_ _)); exact BK356.out⟩
                have n7_ : Aside0 (Below w.heap.size w ((((((((((w58.setCell ⟨gb356, 0, none⟩ (.int .u16 t345)).setCell ⟨gb356, 1, none⟩ (.int .u8 t346)).setCell ⟨gb356, 2, none⟩ (.int .u8 t347)).setCell ⟨gb356, 3, none⟩ (.int .u8 t348)).setCell ⟨gb356, 4, none⟩ (.int .u8 t349)).setCell ⟨gb356, 5, none⟩ (.int .i64 t350)).setCell ⟨gb356, 6, none⟩ (.int .i64 t351)).setCell ⟨gb356, 7, none⟩ (.int .i64 t352)).setCell ⟨gb356, 8, none⟩ (.int .u8 t353)).setCell ⟨gb356, 9, none⟩ (.int .i64 t354))) := ⟨by repeat (first | (with_reducible first | exact HB.out | apply below_alloc | apply pw_below_drewN | apply below_drew1 | refine below_set ?_ GE308.out | refine below_set ?_ GE309.out | refine below_set ?_ GE310.out | refine below_set ?_ GE321.out | refine below_set ?_ GE332.out | refine below_set ?_ GE344.out | refine below_set ?_ GE356.out) | exact HB.out)⟩
                (try clear BK308)
                (try clear BK309)
                (try clear BK310)
                (try clear BK321)
                (try clear BK332)
                (try clear BK344)
                (try clear BK356)
                (try clear HB)
                generalize ((((((((((w58.setCell ⟨gb356, 0, none⟩ (.int .u16 t345)).setCell ⟨gb356, 1, none⟩ (.int .u8 t346)).setCell ⟨gb356, 2, none⟩ (.int .u8 t347)).setCell ⟨gb356, 3, none⟩ (.int .u8 t348)).setCell ⟨gb356, 4, none⟩ (.int .u8 t349)).setCell ⟨gb356, 5, none⟩ (.int .i64 t350)).setCell ⟨gb356, 6, none⟩ (.int .i64 t351)).setCell ⟨gb356, 7, none⟩ (.int .i64 t352)).setCell ⟨gb356, 8, none⟩ (.int .u8 t353)).setCell ⟨gb356, 9, none⟩ (.int .i64 t354)) = w66 at n0_ n1_ n2_ n3_ n4_ n5_ n6_ n7_ ⊢
                have BK308 := n0_
                have BK309 := n1_
                have BK310 := n2_
                have BK321 := n3_
                have BK332 := n4_
                have BK344 := n5_
                have BK356 := n6_
                have HB := n7_
                clear n0_ n1_ n2_ n3_ n4_ n5_ n6_ n7_
                replace BK308 := Aside0.mk (blk_drew BK308.out)
                replace BK309 := Aside0.mk (blk_drew BK309.out)
                replace BK310 := Aside0.mk (blk_drew BK310.out)
                replace BK321 := Aside0.mk (blk_drew BK321.out)
                replace BK332 := Aside0.mk (blk_drew BK332.out)
                replace BK344 := Aside0.mk (blk_drew BK344.out)
                replace BK356 := Aside0.mk (blk_drew BK356.out)
                replace HB := Aside0.mk (below_drew1 HB.out)
                refine start_ (n := 41) (S := fun w' => w'.cell? ⟨gb308, 0, none⟩ = some (.int .u8 a0_0) ∧ w'.cell? ⟨gb308, 1, none⟩ = some (.int .u8 a0_1) ∧ w'.cell? ⟨gb308, 2, none⟩ = some (.int .u8 a0_2) ∧ w'.cell? ⟨gb308, 3, none⟩ = some (.int .u8 a0_3) ∧ w'.cell? ⟨gb308, 4, none⟩ = some (.int .i64 a0_4) ∧ w'.cell? ⟨gb308, 5, none⟩ = some (.int .i64 a0_5) ∧ w'.cell? ⟨gb308, 6, none⟩ = some (.int .i64 a0_6) ∧ w'.cell? ⟨gb308, 7, none⟩ = some (.int .u8 a0_7) ∧ w'.cell? ⟨gb308, 8, none⟩ = some (.int .i64 a0_8) ∧ w'.cell? ⟨gb309, 0, none⟩ = some (.int .u16 a1_0) ∧ w'.cell? ⟨gb309, 1, none⟩ = some (.int .u8 a1_1) ∧ w'.cell? ⟨gb309, 2, none⟩ = some (.int .u8 a1_2) ∧ w'.cell? ⟨gb309, 3, none⟩ = some (.int .u8 a1_3) ∧ w'.cell? ⟨gb309, 4, none⟩ = some (.int .u8 a1_4) ∧ w'.cell? ⟨gb309, 5, none⟩ = some (.int .i64 a1_5) ∧ w'.cell? ⟨gb309, 6, none⟩ = some (.int .i64 a1_6) ∧ w'.cell? ⟨gb309, 7, none⟩ = some (.int .i64 a1_7) ∧ w'.cell? ⟨gb309, 8, none⟩ = some (.int .u8 a1_8) ∧ w'.cell? ⟨gb309, 9, none⟩ = some (.int .i64 a1_9) ∧ w'.cell? ⟨gb321, 0, none⟩ = some (.int .u8 t311) ∧ w'.cell? ⟨gb321, 1, none⟩ = some (.int .u8 t312) ∧ w'.cell? ⟨gb321, 2, none⟩ = some (.int .u8 t313) ∧ w'.cell? ⟨gb321, 3, none⟩ = some (.int .u8 t314) ∧ w'.cell? ⟨gb321, 4, none⟩ = some (.int .i64 t315) ∧ w'.cell? ⟨gb321, 5, none⟩ = some (.int .i64 t316) ∧ w'.cell? ⟨gb321, 6, none⟩ = some (.int .i64 t317) ∧ w'.cell? ⟨gb321, 7, none⟩ = some (.int .u8 t318) ∧ w'.cell? ⟨gb321, 8, none⟩ = some (.int .i64 t319) ∧ w'.cell? ⟨gb332, 0, none⟩ = some (.int .u8 t322) ∧ w'.cell? ⟨gb332, 1, none⟩ = some (.int .u8 t323) ∧ w'.cell? ⟨gb332, 2, none⟩ = some (.int .u8 t324) ∧ w'.cell? ⟨gb332, 3, none⟩ = some (.int .u8 t325) ∧ w'.cell? ⟨gb332, 4, none⟩ = some (.int .i64 t326) ∧ w'.cell? ⟨gb332, 5, none⟩ = some (.int .i64 t327) ∧ w'.cell? ⟨gb332, 6, none⟩ = some (.int .i64 t328) ∧ w'.cell? ⟨gb332, 7, none⟩ = some (.int .u8 t329) ∧ w'.cell? ⟨gb332, 8, none⟩ = some (.int .i64 t330) ∧ w'.cell? ⟨gb344, 0, none⟩ = some (.int .u16 t333) ∧ w'.cell? ⟨gb344, 1, none⟩ = some (.int .u8 t334) ∧ w'.cell? ⟨gb344, 2, none⟩ = some (.int .u8 t335) ∧ w'.cell? ⟨gb344, 3, none⟩ = some (.int .u8 t336) ∧ w'.cell? ⟨gb344, 4, none⟩ = some (.int .u8 t337) ∧ w'.cell? ⟨gb344, 5, none⟩ = some (.int .i64 t338) ∧ w'.cell? ⟨gb344, 6, none⟩ = some (.int .i64 t339) ∧ w'.cell? ⟨gb344, 7, none⟩ = some (.int .i64 t340) ∧ w'.cell? ⟨gb344, 8, none⟩ = some (.int .u8 t341) ∧ w'.cell? ⟨gb344, 9, none⟩ = some (.int .i64 t342) ∧ w'.cell? ⟨gb356, 0, none⟩ = some (.int .u16 t345) ∧ w'.cell? ⟨gb356, 1, none⟩ = some (.int .u8 t346) ∧ w'.cell? ⟨gb356, 2, none⟩ = some (.int .u8 t347) ∧ w'.cell? ⟨gb356, 3, none⟩ = some (.int .u8 t348) ∧ w'.cell? ⟨gb356, 4, none⟩ = some (.int .u8 t349) ∧ w'.cell? ⟨gb356, 5, none⟩ = some (.int .i64 t350) ∧ w'.cell? ⟨gb356, 6, none⟩ = some (.int .i64 t351) ∧ w'.cell? ⟨gb356, 7, none⟩ = some (.int .i64 t352) ∧ w'.cell? ⟨gb356, 8, none⟩ = some (.int .u8 t353) ∧ w'.cell? ⟨gb356, 9, none⟩ = some (.int .i64 t354)) (ds := []) #[false, false, false, false, false, false, false, false, false, false, false, false, false, false, false, false, false, false, false, false, false, false, false, false, false, false, false, false, false, false, false, false, false, false, false, false, false, false, false, false, false] (by kernel_rfl) rfl rfl ⟨bc BK308 0, bc BK308 1, bc BK308 2, bc BK308 3, bc BK308 4, bc BK308 5, bc BK308 6, bc BK308 7, bc BK308 8, bc BK309 0, bc BK309 1, bc BK309 2, bc BK309 3, bc BK309 4, bc BK309 5, bc BK309 6, bc BK309 7, bc BK309 8, bc BK309 9, bc BK321 0, bc BK321 1, bc BK321 2, bc BK321 3, bc BK321 4, bc BK321 5, bc BK321 6, bc BK321 7, bc BK321 8, bc BK332 0, bc BK332 1, bc BK332 2, bc BK332 3, bc BK332 4, bc BK332 5, bc BK332 6, bc BK332 7, bc BK332 8, bc BK344 0, bc BK344 1, bc BK344 2, bc BK344 3, bc BK344 4, bc BK344 5, bc BK344 6, bc BK344 7, bc BK344 8, bc BK344 9, bc BK356 0, bc BK356 1, bc BK356 2, bc BK356 3, bc BK356 4, bc BK356 5, bc BK356 6, bc BK356 7, bc BK356 8, bc BK356 9⟩ (fun hHeld => ?_); refine with_tabW stickfullaw06_StyleTells.tab5 stickfullaw06_StyleTells.bits5 (fun HT_ HW_ => ?_)
                generalize w66.drew = w67 at BK308 BK309 BK310 BK321 BK332 BK344 BK356 HB hHeld ⊢
                refine take_ (i := 0) (N := some 39) (v := ?_) (a' := ?_) #[true, false, false, false, false, false, false, false, false, false, false, false, false, false, false, false, false, false, false, false, false, false, false, false, false, false, false, false, false, false, false, false, false, false, false, false, false, false, false, false, false] rfl rfl (take_ofW HT_.out HW_.out (by kernel_rfl)) (fun _ _ _ h => h) (Or.inl ⟨by rfl, ?_⟩) hHeld ?_ ?_
                rotate_left
                · rintro w' ⟨s0, s1, s2, s3, s4, s5, s6, s7, s8, s9, s10, s11, s12, s13, s14, s15, s16, s17, s18, s19, s20, s21, s22, s23, s24, s25, s26, s27, s28, s29, s30, s31, s32, s33, s34, s35, s36, s37, s38, s39, s40, s41, s42, s43, s44, s45, s46, s47, s48, s49, s50, s51, s52, s53, s54, s55, s56⟩
                  go_simp
                  with_reducible rfl
                rotate_left
                · simp only [Act.put, List.setIfInBounds_toArray, List.set_cons_zero, List.set_cons_succ, i64_w, i32_w]
                  rfl
                refine take_ (i := 2) (N := some 41) (v := ?_) (a' := ?_) #[true, false, true, false, false, false, false, false, false, false, false, false, false, false, false, false, false, false, false, false, false, false, false, false, false, false, false, false, false, false, false, false, false, false, false, false, false, false, false, false, false] rfl rfl (take_ofW HT_.out HW_.out (by kernel_rfl)) (fun _ _ _ h => h) (Or.inl ⟨by rfl, ?_⟩) hHeld ?_ ?_
                rotate_left
                · rintro w' ⟨s0, s1, s2, s3, s4, s5, s6, s7, s8, s9, s10, s11, s12, s13, s14, s15, s16, s17, s18, s19, s20, s21, s22, s23, s24, s25, s26, s27, s28, s29, s30, s31, s32, s33, s34, s35, s36, s37, s38, s39, s40, s41, s42, s43, s44, s45, s46, s47, s48, s49, s50, s51, s52, s53, s54, s55, s56⟩
                  go_simp
                  with_reducible rfl
                rotate_left
                · simp only [Act.put, List.setIfInBounds_toArray, List.set_cons_zero, List.set_cons_succ, i64_w, i32_w]
                  rfl
                refine one_ (i := 1) (N := some 40) #[true, true, true, false, false, false, false, false, false, false, false, false, false, false, false, false, false, false, false, false, false, false, false, false, false, false, false, false, false, false, false, false, false, false, false, false, false, false, false, false, false] rfl rfl (one_of HT_.out (by kernel_rfl)) (by decide) (fun K hK => ?_)
                refine goes_ Try.func16 (by kernel_rfl) rfl #[.agg #[.int .u8 a0_0, .int .u8 a0_1, .int .u8 a0_2, .int .u8 a0_3, .int .i64 a0_4, .int .i64 a0_5, .int .i64 a0_6, .int .u8 a0_7, .int .i64 a0_8]] (by rfl) rfl rfl (by (try simp only [List.map_toArray, List.map_cons, List.map_nil]); first | done | rfl | (simp only [List.length_drop, List.length_take]; rfl)) ?_
                with_reducible refine (style_Check.calls a0_0 a0_1 a0_2 a0_3 a0_4 a0_5 a0_6 a0_7 a0_8 t357 _ A8.out).mono ?_
                rintro e w68 ⟨rfl, hb⟩
                refine ⟨_, rfl, ?_⟩
                replace BK308 := bb BK308 hb
                replace BK309 := bb BK309 hb
                replace BK310 := bb BK310 hb
                replace BK321 := bb BK321 hb
                replace BK332 := bb BK332 hb
                replace BK344 := bb BK344 hb
                replace BK356 := bb BK356 hb
                replace HB := bh HB hb
                (try clear hb)
                (try clear hb2)
                (try clear hk)
                (try clear hi)
                refine hK.out _ _ ⟨bc BK308 0, bc BK308 1, bc BK308 2, bc BK308 3, bc BK308 4, bc BK308 5, bc BK308 6, bc BK308 7, bc BK308 8, bc BK309 0, bc BK309 1, bc BK309 2, bc BK309 3, bc BK309 4, bc BK309 5, bc BK309 6, bc BK309 7, bc BK309 8, bc BK309 9, bc BK321 0, bc BK321 1, bc BK321 2, bc BK321 3, bc BK321 4, bc BK321 5, bc BK321 6, bc BK321 7, bc BK321 8, bc BK332 0, bc BK332 1, bc BK332 2, bc BK332 3, bc BK332 4, bc BK332 5, bc BK332 6, bc BK332 7, bc BK332 8, bc BK344 0, bc BK344 1, bc BK344 2, bc BK344 3, bc BK344 4, bc BK344 5, bc BK344 6, bc BK344 7, bc BK344 8, bc BK344 9, bc BK356 0, bc BK356 1, bc BK356 2, bc BK356 3, bc BK356 4, bc BK356 5, bc BK356 6, bc BK356 7, bc BK356 8, bc BK356 9⟩ (fun hHeld => ?_)
                clear hK K
                refine norm_ (a' := ?_) ?_ ?_
                rotate_left
                · show Act.put _ (some 40) _ = _
                  simp only [Act.put, List.setIfInBounds_toArray, List.set_cons_zero, List.set_cons_succ, i64_w, i32_w]
                  rfl
                refine one_ (i := 3) (N := some 42) #[true, true, true, true, false, false, false, false, false, false, false, false, false, false, false, false, false, false, false, false, false, false, false, false, false, false, false, false, false, false, false, false, false, false, false, false, false, false, false, false, false] rfl rfl (one_of HT_.out (by kernel_rfl)) (by decide) (fun K hK => ?_)
                refine goes_ Try.func17 (by kernel_rfl) rfl #[.agg #[.int .u8 a0_0, .int .u8 a0_1, .int .u8 a0_2, .int .u8 a0_3, .int .i64 a0_4, .int .i64 a0_5, .int .i64 a0_6, .int .u8 a0_7, .int .i64 a0_8]] (by rfl) rfl rfl (by (try simp only [List.map_toArray, List.map_cons, List.map_nil]); first | done | rfl | (simp only [List.length_drop, List.length_take]; rfl)) ?_
                with_reducible refine (stickfulref06_Check.calls a0_0 a0_1 a0_2 a0_3 a0_4 a0_5 a0_6 a0_7 a0_8 t358 _ A9.out).mono ?_
                rintro e w69 ⟨rfl, hb⟩
                refine ⟨_, rfl, ?_⟩
                replace BK308 := bb BK308 hb
                replace BK309 := bb BK309 hb
                replace BK310 := bb BK310 hb
                replace BK321 := bb BK321 hb
                replace BK332 := bb BK332 hb
                replace BK344 := bb BK344 hb
                replace BK356 := bb BK356 hb
                replace HB := bh HB hb
                (try clear hb)
                (try clear hb2)
                (try clear hk)
                (try clear hi)
                refine hK.out _ _ ⟨bc BK308 0, bc BK308 1, bc BK308 2, bc BK308 3, bc BK308 4, bc BK308 5, bc BK308 6, bc BK308 7, bc BK308 8, bc BK309 0, bc BK309 1, bc BK309 2, bc BK309 3, bc BK309 4, bc BK309 5, bc BK309 6, bc BK309 7, bc BK309 8, bc BK309 9, bc BK321 0, bc BK321 1, bc BK321 2, bc BK321 3, bc BK321 4, bc BK321 5, bc BK321 6, bc BK321 7, bc BK321 8, bc BK332 0, bc BK332 1, bc BK332 2, bc BK332 3, bc BK332 4, bc BK332 5, bc BK332 6, bc BK332 7, bc BK332 8, bc BK344 0, bc BK344 1, bc BK344 2, bc BK344 3, bc BK344 4, bc BK344 5, bc BK344 6, bc BK344 7, bc BK344 8, bc BK344 9, bc BK356 0, bc BK356 1, bc BK356 2, bc BK356 3, bc BK356 4, bc BK356 5, bc BK356 6, bc BK356 7, bc BK356 8, bc BK356 9⟩ (fun hHeld => ?_)
                clear hK K
                refine norm_ (a' := ?_) ?_ ?_
                rotate_left
                · show Act.put _ (some 42) _ = _
                  simp only [Act.put, List.setIfInBounds_toArray, List.set_cons_zero, List.set_cons_succ, i64_w, i32_w]
                  rfl
                refine pure_ (i := 4) (N := some 43) (v := ?_) (a' := ?_) #[true, true, true, true, true, false, false, false, false, false, false, false, false, false, false, false, false, false, false, false, false, false, false, false, false, false, false, false, false, false, false, false, false, false, false, false, false, false, false, false, false] rfl rfl (any_of HT_.out (by kernel_rfl)) (fun _ _ _ h => h) (Or.inl ⟨by rfl, ?_⟩) ?_ ?_
                rotate_left
                · intro w'
                  go_simp
                  with_reducible rfl
                rotate_left
                · simp only [Act.put, List.setIfInBounds_toArray, List.set_cons_zero, List.set_cons_succ, i64_w, i32_w]
                  rfl
                refine pure_ (i := 5) (N := some 44) (v := ?_) (a' := ?_) #[true, true, true, true, true, true, false, false, false, false, false, false, false, false, false, false, false, false, false, false, false, false, false, false, false, false, false, false, false, false, false, false, false, false, false, false, false, false, false, false, false] rfl rfl (any_of HT_.out (by kernel_rfl)) (fun _ _ _ h => h) (Or.inl ⟨by rfl, ?_⟩) ?_ ?_
                rotate_left
                · intro w'
                  go_simp
                  with_reducible rfl
                rotate_left
                · simp only [Act.put, List.setIfInBounds_toArray, List.set_cons_zero, List.set_cons_succ, i64_w, i32_w]
                  rfl
                refine take_ (i := 6) (N := some 45) (v := ?_) (a' := ?_) #[true, true, true, true, true, true, true, false, false, false, false, false, false, false, false, false, false, false, false, false, false, false, false, false, false, false, false, false, false, false, false, false, false, false, false, false, false, false, false, false, false] rfl rfl (take_ofW HT_.out HW_.out (by kernel_rfl)) (fun _ _ _ h => h) (Or.inl ⟨by rfl, ?_⟩) hHeld ?_ ?_
                rotate_left
                · rintro w' ⟨s0, s1, s2, s3, s4, s5, s6, s7, s8, s9, s10, s11, s12, s13, s14, s15, s16, s17, s18, s19, s20, s21, s22, s23, s24, s25, s26, s27, s28, s29, s30, s31, s32, s33, s34, s35, s36, s37, s38, s39, s40, s41, s42, s43, s44, s45, s46, s47, s48, s49, s50, s51, s52, s53, s54, s55, s56⟩
                  go_simp
                  with_reducible rfl
                rotate_left
                · simp only [Act.put, List.setIfInBounds_toArray, List.set_cons_zero, List.set_cons_succ, i64_w, i32_w]
                  rfl
                refine take_ (i := 8) (N := some 47) (v := ?_) (a' := ?_) #[true, true, true, true, true, true, true, false, true, false, false, false, false, false, false, false, false, false, false, false, false, false, false, false, false, false, false, false, false, false, false, false, false, false, false, false, false, false, false, false, false] rfl rfl (take_ofW HT_.out HW_.out (by kernel_rfl)) (fun _ _ _ h => h) (Or.inl ⟨by rfl, ?_⟩) hHeld ?_ ?_
                rotate_left
                · rintro w' ⟨s0, s1, s2, s3, s4, s5, s6, s7, s8, s9, s10, s11, s12, s13, s14, s15, s16, s17, s18, s19, s20, s21, s22, s23, s24, s25, s26, s27, s28, s29, s30, s31, s32, s33, s34, s35, s36, s37, s38, s39, s40, s41, s42, s43, s44, s45, s46, s47, s48, s49, s50, s51, s52, s53, s54, s55, s56⟩
                  go_simp
                  with_reducible rfl
                rotate_left
                · simp only [Act.put, List.setIfInBounds_toArray, List.set_cons_zero, List.set_cons_succ, i64_w, i32_w]
                  rfl
                refine one_ (i := 7) (N := some 46) #[true, true, true, true, true, true, true, true, true, false, false, false, false, false, false, false, false, false, false, false, false, false, false, false, false, false, false, false, false, false, false, false, false, false, false, false, false, false, false, false, false] rfl rfl (one_of HT_.out (by kernel_rfl)) (by decide) (fun K hK => ?_)
                refine goes_ Try.func18 (by kernel_rfl) rfl #[.agg #[.int .u16 a1_0, .int .u8 a1_1, .int .u8 a1_2, .int .u8 a1_3, .int .u8 a1_4, .int .i64 a1_5, .int .i64 a1_6, .int .i64 a1_7, .int .u8 a1_8, .int .i64 a1_9]] (by rfl) rfl rfl (by (try simp only [List.map_toArray, List.map_cons, List.map_nil]); first | done | rfl | (simp only [List.length_drop, List.length_take]; rfl)) ?_
                with_reducible refine (style_CheckDecl.calls a1_0 a1_1 a1_2 a1_3 a1_4 a1_5 a1_6 a1_7 a1_8 a1_9 t359 _ A11.out).mono ?_
                rintro e w70 ⟨rfl, hb⟩
                refine ⟨_, rfl, ?_⟩
                replace BK308 := bb BK308 hb
                replace BK309 := bb BK309 hb
                replace BK310 := bb BK310 hb
                replace BK321 := bb BK321 hb
                replace BK332 := bb BK332 hb
                replace BK344 := bb BK344 hb
                replace BK356 := bb BK356 hb
                replace HB := bh HB hb
                (try clear hb)
                (try clear hb2)
                (try clear hk)
                (try clear hi)
                refine hK.out _ _ ⟨bc BK308 0, bc BK308 1, bc BK308 2, bc BK308 3, bc BK308 4, bc BK308 5, bc BK308 6, bc BK308 7, bc BK308 8, bc BK309 0, bc BK309 1, bc BK309 2, bc BK309 3, bc BK309 4, bc BK309 5, bc BK309 6, bc BK309 7, bc BK309 8, bc BK309 9, bc BK321 0, bc BK321 1, bc BK321 2, bc BK321 3, bc BK321 4, bc BK321 5, bc BK321 6, bc BK321 7, bc BK321 8, bc BK332 0, bc BK332 1, bc BK332 2, bc BK332 3, bc BK332 4, bc BK332 5, bc BK332 6, bc BK332 7, bc BK332 8, bc BK344 0, bc BK344 1, bc BK344 2, bc BK344 3, bc BK344 4, bc BK344 5, bc BK344 6, bc BK344 7, bc BK344 8, bc BK344 9, bc BK356 0, bc BK356 1, bc BK356 2, bc BK356 3, bc BK356 4, bc BK356 5, bc BK356 6, bc BK356 7, bc BK356 8, bc BK356 9⟩ (fun hHeld => ?_)
                clear hK K
                refine norm_ (a' := ?_) ?_ ?_
                rotate_left
                · show Act.put _ (some 46) _ = _
                  simp only [Act.put, List.setIfInBounds_toArray, List.set_cons_zero, List.set_cons_succ, i64_w, i32_w]
                  rfl
                refine one_ (i := 9) (N := some 48) #[true, true, true, true, true, true, true, true, true, true, false, false, false, false, false, false, false, false, false, false, false, false, false, false, false, false, false, false, false, false, false, false, false, false, false, false, false, false, false, false, false] rfl rfl (one_of HT_.out (by kernel_rfl)) (by decide) (fun K hK => ?_)
                refine goes_ Try.func19 (by kernel_rfl) rfl #[.agg #[.int .u16 a1_0, .int .u8 a1_1, .int .u8 a1_2, .int .u8 a1_3, .int .u8 a1_4, .int .i64 a1_5, .int .i64 a1_6, .int .i64 a1_7, .int .u8 a1_8, .int .i64 a1_9]] (by rfl) rfl rfl (by (try simp only [List.map_toArray, List.map_cons, List.map_nil]); first | done | rfl | (simp only [List.length_drop, List.length_take]; rfl)) ?_
                with_reducible refine (stickfulref06_CheckDecl.calls k a1_0 a1_1 a1_2 a1_3 a1_4 a1_5 a1_6 a1_7 a1_8 a1_9 t360 _ A12.out).mono ?_
                rintro e w71 ⟨rfl, hb⟩
                refine ⟨_, rfl, ?_⟩
                replace BK308 := bb BK308 hb
                replace BK309 := bb BK309 hb
                replace BK310 := bb BK310 hb
                replace BK321 := bb BK321 hb
                replace BK332 := bb BK332 hb
                replace BK344 := bb BK344 hb
                replace BK356 := bb BK356 hb
                replace HB := bh HB hb
                (try clear hb)
                (try clear hb2)
                (try clear hk)
                (try clear hi)
                refine hK.out _ _ ⟨bc BK308 0, bc BK308 1, bc BK308 2, bc BK308 3, bc BK308 4, bc BK308 5, bc BK308 6, bc BK308 7, bc BK308 8, bc BK309 0, bc BK309 1, bc BK309 2, bc BK309 3, bc BK309 4, bc BK309 5, bc BK309 6, bc BK309 7, bc BK309 8, bc BK309 9, bc BK321 0, bc BK321 1, bc BK321 2, bc BK321 3, bc BK321 4, bc BK321 5, bc BK321 6, bc BK321 7, bc BK321 8, bc BK332 0, bc BK332 1, bc BK332 2, bc BK332 3, bc BK332 4, bc BK332 5, bc BK332 6, bc BK332 7, bc BK332 8, bc BK344 0, bc BK344 1, bc BK344 2, bc BK344 3, bc BK344 4, bc BK344 5, bc BK344 6, bc BK344 7, bc BK344 8, bc BK344 9, bc BK356 0, bc BK356 1, bc BK356 2, bc BK356 3, bc BK356 4, bc BK356 5, bc BK356 6, bc BK356 7, bc BK356 8, bc BK356 9⟩ (fun hHeld => ?_)
                clear hK K
                refine norm_ (a' := ?_) ?_ ?_
                rotate_left
                · show Act.put _ (some 48) _ = _
                  simp only [Act.put, List.setIfInBounds_toArray, List.set_cons_zero, List.set_cons_succ, i64_w, i32_w]
                  rfl
                refine pure_ (i := 10) (N := some 49) (v := ?_) (a' := ?_) #[true, true, true, true, true, true, true, true, true, true, true, false, false, false, false, false, false, false, false, false, false, false, false, false, false, false, false, false, false, false, false, false, false, false, false, false, false, false, false, false, false] rfl rfl (any_of HT_.out (by kernel_rfl)) (fun _ _ _ h => h) (Or.inl ⟨by rfl, ?_⟩) ?_ ?_
                rotate_left
                · intro w'
                  go_simp
                  with_reducible rfl
                rotate_left
                · simp only [Act.put, List.setIfInBounds_toArray, List.set_cons_zero, List.set_cons_succ, i64_w, i32_w]
                  rfl
                refine pure_ (i := 11) (N := some 50) (v := ?_) (a' := ?_) #[true, true, true, true, true, true, true, true, true, true, true, true, false, false, false, false, false, false, false, false, false, false, false, false, false, false, false, false, false, false, false, false, false, false, false, false, false, false, false, false, false] rfl rfl (any_of HT_.out (by kernel_rfl)) (fun _ _ _ h => h) (Or.inl ⟨by rfl, ?_⟩) ?_ ?_
                rotate_left
                · intro w'
                  go_simp
                  with_reducible rfl
                rotate_left
                · simp only [Act.put, List.setIfInBounds_toArray, List.set_cons_zero, List.set_cons_succ, i64_w, i32_w]
                  rfl
                refine pure_ (i := 12) (N := some 51) (v := ?_) (a' := ?_) #[true, true, true, true, true, true, true, true, true, true, true, true, true, false, false, false, false, false, false, false, false, false, false, false, false, false, false, false, false, false, false, false, false, false, false, false, false, false, false, false, false] rfl rfl (any_of HT_.out (by kernel_rfl)) (fun _ _ _ h => h) (Or.inl ⟨by rfl, ?_⟩) ?_ ?_
                rotate_left
                · intro w'
                  go_simp
                  with_reducible rfl
                rotate_left
                · simp only [Act.put, List.setIfInBounds_toArray, List.set_cons_zero, List.set_cons_succ, i64_w, i32_w]
                  rfl
                refine take_ (i := 13) (N := some 52) (v := ?_) (a' := ?_) #[true, true, true, true, true, true, true, true, true, true, true, true, true, true, false, false, false, false, false, false, false, false, false, false, false, false, false, false, false, false, false, false, false, false, false, false, false, false, false, false, false] rfl rfl (take_ofW HT_.out HW_.out (by kernel_rfl)) (fun _ _ _ h => h) (Or.inl ⟨by rfl, ?_⟩) hHeld ?_ ?_
                rotate_left
                · rintro w' ⟨s0, s1, s2, s3, s4, s5, s6, s7, s8, s9, s10, s11, s12, s13, s14, s15, s16, s17, s18, s19, s20, s21, s22, s23, s24, s25, s26, s27, s28, s29, s30, s31, s32, s33, s34, s35, s36, s37, s38, s39, s40, s41, s42, s43, s44, s45, s46, s47, s48, s49, s50, s51, s52, s53, s54, s55, s56⟩
                  go_simp
                  with_reducible rfl
                rotate_left
                · simp only [Act.put, List.setIfInBounds_toArray, List.set_cons_zero, List.set_cons_succ, i64_w, i32_w]
                  rfl
                refine take_ (i := 14) (N := some 53) (v := ?_) (a' := ?_) #[true, true, true, true, true, true, true, true, true, true, true, true, true, true, true, false, false, false, false, false, false, false, false, false, false, false, false, false, false, false, false, false, false, false, false, false, false, false, false, false, false] rfl rfl (take_ofW HT_.out HW_.out (by kernel_rfl)) (fun _ _ _ h => h) (Or.inl ⟨by rfl, ?_⟩) hHeld ?_ ?_
                rotate_left
                · rintro w' ⟨s0, s1, s2, s3, s4, s5, s6, s7, s8, s9, s10, s11, s12, s13, s14, s15, s16, s17, s18, s19, s20, s21, s22, s23, s24, s25, s26, s27, s28, s29, s30, s31, s32, s33, s34, s35, s36, s37, s38, s39, s40, s41, s42, s43, s44, s45, s46, s47, s48, s49, s50, s51, s52, s53, s54, s55, s56⟩
                  go_simp
                  with_reducible rfl
                rotate_left
                · simp only [Act.put, List.setIfInBounds_toArray, List.set_cons_zero, List.set_cons_succ, i64_w, i32_w]
                  rfl
                refine pure_ (i := 15) (N := some 54) (v := ?_) (a' := ?_) #[true, true, true, true, true, true, true, true, true, true, true, true, true, true, true, true, false, false, false, false, false, false, false, false, false, false, false, false, false, false, false, false, false, false, false, false, false, false, false, false, false] rfl rfl (any_of HT_.out (by kernel_rfl)) (fun _ _ _ h => h) (Or.inl ⟨by rfl, ?_⟩) ?_ ?_
                rotate_left
                · intro w'
                  go_simp
                  with_reducible rfl
                rotate_left
                · simp only [Act.put, List.setIfInBounds_toArray, List.set_cons_zero, List.set_cons_succ, i64_w, i32_w]
                  rfl
                refine pure_ (i := 16) (N := some 55) (v := ?_) (a' := ?_) #[true, true, true, true, true, true, true, true, true, true, true, true, true, true, true, true, true, false, false, false, false, false, false, false, false, false, false, false, false, false, false, false, false, false, false, false, false, false, false, false, false] rfl rfl (any_of HT_.out (by kernel_rfl)) (fun _ _ _ h => h) (Or.inl ⟨by rfl, ?_⟩) ?_ ?_
                rotate_left
                · intro w'
                  go_simp
                  with_reducible rfl
                rotate_left
                · simp only [Act.put, List.setIfInBounds_toArray, List.set_cons_zero, List.set_cons_succ, i64_w, i32_w]
                  rfl
                refine pure_ (i := 17) (N := some 56) (v := ?_) (a' := ?_) #[true, true, true, true, true, true, true, true, true, true, true, true, true, true, true, true, true, true, false, false, false, false, false, false, false, false, false, false, false, false, false, false, false, false, false, false, false, false, false, false, false] rfl rfl (any_of HT_.out (by kernel_rfl)) (fun _ _ _ h => h) (Or.inl ⟨by rfl, ?_⟩) ?_ ?_
                rotate_left
                · intro w'
                  go_simp
                  with_reducible rfl
                rotate_left
                · simp only [Act.put, List.setIfInBounds_toArray, List.set_cons_zero, List.set_cons_succ, i64_w, i32_w]
                  rfl
                refine pure_ (i := 18) (N := some 57) (v := ?_) (a' := ?_) #[true, true, true, true, true, true, true, true, true, true, true, true, true, true, true, true, true, true, true, false, false, false, false, false, false, false, false, false, false, false, false, false, false, false, false, false, false, false, false, false, false] rfl rfl (any_of HT_.out (by kernel_rfl)) (fun _ _ _ h => h) (Or.inl ⟨by rfl, ?_⟩) ?_ ?_
                rotate_left
                · intro w'
                  go_simp
                  with_reducible rfl
                rotate_left
                · simp only [Act.put, List.setIfInBounds_toArray, List.set_cons_zero, List.set_cons_succ, i64_w, i32_w]
                  rfl
                refine pure_ (i := 19) (N := some 58) (v := ?_) (a' := ?_) #[true, true, true, true, true, true, true, true, true, true, true, true, true, true, true, true, true, true, true, true, false, false, false, false, false, false, false, false, false, false, false, false, false, false, false, false, false, false, false, false, false] rfl rfl (any_of HT_.out (by kernel_rfl)) (fun _ _ _ h => h) (Or.inl ⟨by rfl, ?_⟩) ?_ ?_
                rotate_left
                · intro w'
                  go_simp
                  with_reducible rfl
                rotate_left
                · simp only [Act.put, List.setIfInBounds_toArray, List.set_cons_zero, List.set_cons_succ, i64_w, i32_w]
                  rfl
                refine pure_ (i := 20) (N := some 59) (v := ?_) (a' := ?_) #[true, true, true, true, true, true, true, true, true, true, true, true, true, true, true, true, true, true, true, true, true, false, false, false, false, false, false, false, false, false, false, false, false, false, false, false, false, false, false, false, false] rfl rfl (any_of HT_.out (by kernel_rfl)) (fun _ _ _ h => h) (Or.inl ⟨by rfl, ?_⟩) ?_ ?_
                rotate_left
                · intro w'
                  go_simp
                  with_reducible rfl
                rotate_left
                · simp only [Act.put, List.setIfInBounds_toArray, List.set_cons_zero, List.set_cons_succ, i64_w, i32_w]
                  rfl
                refine pure_ (i := 21) (N := some 60) (v := ?_) (a' := ?_) #[true, true, true, true, true, true, true, true, true, true, true, true, true, true, true, true, true, true, true, true, true, true, false, false, false, false, false, false, false, false, false, false, false, false, false, false, false, false, false, false, false] rfl rfl (any_of HT_.out (by kernel_rfl)) (fun _ _ _ h => h) (Or.inl ⟨by rfl, ?_⟩) ?_ ?_
                rotate_left
                · intro w'
                  go_simp
                  with_reducible rfl
                rotate_left
                · simp only [Act.put, List.setIfInBounds_toArray, List.set_cons_zero, List.set_cons_succ, i64_w, i32_w]
                  rfl
                refine pure_ (i := 22) (N := some 61) (v := ?_) (a' := ?_) #[true, true, true, true, true, true, true, true, true, true, true, true, true, true, true, true, true, true, true, true, true, true, true, false, false, false, false, false, false, false, false, false, false, false, false, false, false, false, false, false, false] rfl rfl (any_of HT_.out (by kernel_rfl)) (fun _ _ _ h => h) (Or.inl ⟨by rfl, ?_⟩) ?_ ?_
                rotate_left
                · intro w'
                  go_simp
                  with_reducible rfl
                rotate_left
                · simp only [Act.put, List.setIfInBounds_toArray, List.set_cons_zero, List.set_cons_succ, i64_w, i32_w]
                  rfl
                refine take_ (i := 23) (N := some 62) (v := ?_) (a' := ?_) #[true, true, true, true, true, true, true, true, true, true, true, true, true, true, true, true, true, true, true, true, true, true, true, true, false, false, false, false, false, false, false, false, false, false, false, false, false, false, false, false, false] rfl rfl (take_ofW HT_.out HW_.out (by kernel_rfl)) (fun _ _ _ h => h) (Or.inl ⟨by rfl, ?_⟩) hHeld ?_ ?_
                rotate_left
                · rintro w' ⟨s0, s1, s2, s3, s4, s5, s6, s7, s8, s9, s10, s11, s12, s13, s14, s15, s16, s17, s18, s19, s20, s21, s22, s23, s24, s25, s26, s27, s28, s29, s30, s31, s32, s33, s34, s35, s36, s37, s38, s39, s40, s41, s42, s43, s44, s45, s46, s47, s48, s49, s50, s51, s52, s53, s54, s55, s56⟩
                  go_simp
                  with_reducible rfl
                rotate_left
                · simp only [Act.put, List.setIfInBounds_toArray, List.set_cons_zero, List.set_cons_succ, i64_w, i32_w]
                  rfl
                refine take_ (i := 24) (N := some 63) (v := ?_) (a' := ?_) #[true, true, true, true, true, true, true, true, true, true, true, true, true, true, true, true, true, true, true, true, true, true, true, true, true, false, false, false, false, false, false, false, false, false, false, false, false, false, false, false, false] rfl rfl (take_ofW HT_.out HW_.out (by kernel_rfl)) (fun _ _ _ h => h) (Or.inl ⟨by rfl, ?_⟩) hHeld ?_ ?_
                rotate_left
                · rintro w' ⟨s0, s1, s2, s3, s4, s5, s6, s7, s8, s9, s10, s11, s12, s13, s14, s15, s16, s17, s18, s19, s20, s21, s22, s23, s24, s25, s26, s27, s28, s29, s30, s31, s32, s33, s34, s35, s36, s37, s38, s39, s40, s41, s42, s43, s44, s45, s46, s47, s48, s49, s50, s51, s52, s53, s54, s55, s56⟩
                  go_simp
                  with_reducible rfl
                rotate_left
                · simp only [Act.put, List.setIfInBounds_toArray, List.set_cons_zero, List.set_cons_succ, i64_w, i32_w]
                  rfl
                refine pure_ (i := 25) (N := some 64) (v := ?_) (a' := ?_) #[true, true, true, true, true, true, true, true, true, true, true, true, true, true, true, true, true, true, true, true, true, true, true, true, true, true, false, false, false, false, false, false, false, false, false, false, false, false, false, false, false] rfl rfl (any_of HT_.out (by kernel_rfl)) (fun _ _ _ h => h) (Or.inl ⟨by rfl, ?_⟩) ?_ ?_
                rotate_left
                · intro w'
                  go_simp
                  with_reducible rfl
                rotate_left
                · simp only [Act.put, List.setIfInBounds_toArray, List.set_cons_zero, List.set_cons_succ, i64_w, i32_w]
                  rfl
                refine pure_ (i := 26) (N := some 65) (v := ?_) (a' := ?_) #[true, true, true, true, true, true, true, true, true, true, true, true, true, true, true, true, true, true, true, true, true, true, true, true, true, true, true, false, false, false, false, false, false, false, false, false, false, false, false, false, false] rfl rfl (any_of HT_.out (by kernel_rfl)) (fun _ _ _ h => h) (Or.inl ⟨by rfl, ?_⟩) ?_ ?_
                rotate_left
                · intro w'
                  go_simp
                  with_reducible rfl
                rotate_left
                · simp only [Act.put, List.setIfInBounds_toArray, List.set_cons_zero, List.set_cons_succ, i64_w, i32_w]
                  rfl
                refine pure_ (i := 27) (N := some 66) (v := ?_) (a' := ?_) #[true, true, true, true, true, true, true, true, true, true, true, true, true, true, true, true, true, true, true, true, true, true, true, true, true, true, true, true, false, false, false, false, false, false, false, false, false, false, false, false, false] rfl rfl (any_of HT_.out (by kernel_rfl)) (fun _ _ _ h => h) (Or.inl ⟨by rfl, ?_⟩) ?_ ?_
                rotate_left
                · intro w'
                  go_simp
                  with_reducible rfl
                rotate_left
                · simp only [Act.put, List.setIfInBounds_toArray, List.set_cons_zero, List.set_cons_succ, i64_w, i32_w]
                  rfl
                refine pure_ (i := 28) (N := some 67) (v := ?_) (a' := ?_) #[true, true, true, true, true, true, true, true, true, true, true, true, true, true, true, true, true, true, true, true, true, true, true, true, true, true, true, true, true, false, false, false, false, false, false, false, false, false, false, false, false] rfl rfl (any_of HT_.out (by kernel_rfl)) (fun _ _ _ h => h) (Or.inl ⟨by rfl, ?_⟩) ?_ ?_
                rotate_left
                · intro w'
                  go_simp
                  with_reducible rfl
                rotate_left
                · simp only [Act.put, List.setIfInBounds_toArray, List.set_cons_zero, List.set_cons_succ, i64_w, i32_w]
                  rfl
                refine pure_ (i := 29) (N := some 68) (v := ?_) (a' := ?_) #[true, true, true, true, true, true, true, true, true, true, true, true, true, true, true, true, true, true, true, true, true, true, true, true, true, true, true, true, true, true, false, false, false, false, false, false, false, false, false, false, false] rfl rfl (any_of HT_.out (by kernel_rfl)) (fun _ _ _ h => h) (Or.inl ⟨by rfl, ?_⟩) ?_ ?_
                rotate_left
                · intro w'
                  go_simp
                  with_reducible rfl
                rotate_left
                · simp only [Act.put, List.setIfInBounds_toArray, List.set_cons_zero, List.set_cons_succ, i64_w, i32_w]
                  rfl
                refine pure_ (i := 30) (N := some 69) (v := ?_) (a' := ?_) #[true, true, true, true, true, true, true, true, true, true, true, true, true, true, true, true, true, true, true, true, true, true, true, true, true, true, true, true, true, true, true, false, false, false, false, false, false, false, false, false, false] rfl rfl (any_of HT_.out (by kernel_rfl)) (fun _ _ _ h => h) (Or.inl ⟨by rfl, ?_⟩) ?_ ?_
                rotate_left
                · intro w'
                  go_simp
                  with_reducible rfl
                rotate_left
                · simp only [Act.put, List.setIfInBounds_toArray, List.set_cons_zero, List.set_cons_succ, i64_w, i32_w]
                  rfl
                refine pure_ (i := 31) (N := some 70) (v := ?_) (a' := ?_) #[true, true, true, true, true, true, true, true, true, true, true, true, true, true, true, true, true, true, true, true, true, true, true, true, true, true, true, true, true, true, true, true, false, false, false, false, false, false, false, false, false] rfl rfl (any_of HT_.out (by kernel_rfl)) (fun _ _ _ h => h) (Or.inl ⟨by rfl, ?_⟩) ?_ ?_
                rotate_left
                · intro w'
                  go_simp
                  with_reducible rfl
                rotate_left
                · simp only [Act.put, List.setIfInBounds_toArray, List.set_cons_zero, List.set_cons_succ, i64_w, i32_w]
                  rfl
                refine pure_ (i := 32) (N := some 71) (v := ?_) (a' := ?_) #[true, true, true, true, true, true, true, true, true, true, true, true, true, true, true, true, true, true, true, true, true, true, true, true, true, true, true, true, true, true, true, true, true, false, false, false, false, false, false, false, false] rfl rfl (any_of HT_.out (by kernel_rfl)) (fun _ _ _ h => h) (Or.inl ⟨by rfl, ?_⟩) ?_ ?_
                rotate_left
                · intro w'
                  go_simp
                  with_reducible rfl
                rotate_left
                · simp only [Act.put, List.setIfInBounds_toArray, List.set_cons_zero, List.set_cons_succ, i64_w, i32_w]
                  rfl
                refine one_ (i := 33) (N := some 72) #[true, true, true, true, true, true, true, true, true, true, true, true, true, true, true, true, true, true, true, true, true, true, true, true, true, true, true, true, true, true, true, true, true, true, false, false, false, false, false, false, false] rfl rfl (one_of HT_.out (by kernel_rfl)) (by decide) (fun K hK => ?_)
                refine goes_ Try.func20 (by kernel_rfl) rfl #[] (by rfl) rfl rfl (by (try simp only [List.map_toArray, List.map_cons, List.map_nil]); first | done | rfl | (simp only [List.length_drop, List.length_take]; rfl)) ?_
                with_reducible refine (style_First.calls  t361 t362 t363 t364 t365 t366 t367 t368 t369 _ A18.out).mono ?_
                rintro e w72 ⟨rfl, hb⟩
                refine ⟨_, rfl, ?_⟩
                replace BK308 := bb BK308 hb
                replace BK309 := bb BK309 hb
                replace BK310 := bb BK310 hb
                replace BK321 := bb BK321 hb
                replace BK332 := bb BK332 hb
                replace BK344 := bb BK344 hb
                replace BK356 := bb BK356 hb
                replace HB := bh HB hb
                (try clear hb)
                (try clear hb2)
                (try clear hk)
                (try clear hi)
                refine hK.out _ _ ⟨bc BK308 0, bc BK308 1, bc BK308 2, bc BK308 3, bc BK308 4, bc BK308 5, bc BK308 6, bc BK308 7, bc BK308 8, bc BK309 0, bc BK309 1, bc BK309 2, bc BK309 3, bc BK309 4, bc BK309 5, bc BK309 6, bc BK309 7, bc BK309 8, bc BK309 9, bc BK321 0, bc BK321 1, bc BK321 2, bc BK321 3, bc BK321 4, bc BK321 5, bc BK321 6, bc BK321 7, bc BK321 8, bc BK332 0, bc BK332 1, bc BK332 2, bc BK332 3, bc BK332 4, bc BK332 5, bc BK332 6, bc BK332 7, bc BK332 8, bc BK344 0, bc BK344 1, bc BK344 2, bc BK344 3, bc BK344 4, bc BK344 5, bc BK344 6, bc BK344 7, bc BK344 8, bc BK344 9, bc BK356 0, bc BK356 1, bc BK356 2, bc BK356 3, bc BK356 4, bc BK356 5, bc BK356 6, bc BK356 7, bc BK356 8, bc BK356 9⟩ (fun hHeld => ?_)
                clear hK K
                refine norm_ (a' := ?_) ?_ ?_
                rotate_left
                · show Act.put _ (some 72) _ = _
                  simp only [Act.put, List.setIfInBounds_toArray, List.set_cons_zero, List.set_cons_succ, i64_w, i32_w]
                  rfl
                refine one_ (i := 34) (N := some 73) #[true, true, true, true, true, true, true, true, true, true, true, true, true, true, true, true, true, true, true, true, true, true, true, true, true, true, true, true, true, true, true, true, true, true, true, false, false, false, false, false, false] rfl rfl (one_of HT_.out (by kernel_rfl)) (by decide) (fun K hK => ?_)
                refine goes_ Try.func21 (by kernel_rfl) rfl #[] (by rfl) rfl rfl (by (try simp only [List.map_toArray, List.map_cons, List.map_nil]); first | done | rfl | (simp only [List.length_drop, List.length_take]; rfl)) ?_
                with_reducible refine (stickfulref06_First.calls  t370 t371 t372 t373 t374 t375 t376 t377 t378 _ A19.out).mono ?_
                rintro e w73 ⟨rfl, hb⟩
                refine ⟨_, rfl, ?_⟩
                replace BK308 := bb BK308 hb
                replace BK309 := bb BK309 hb
                replace BK310 := bb BK310 hb
                replace BK321 := bb BK321 hb
                replace BK332 := bb BK332 hb
                replace BK344 := bb BK344 hb
                replace BK356 := bb BK356 hb
                replace HB := bh HB hb
                (try clear hb)
                (try clear hb2)
                (try clear hk)
                (try clear hi)
                refine hK.out _ _ ⟨bc BK308 0, bc BK308 1, bc BK308 2, bc BK308 3, bc BK308 4, bc BK308 5, bc BK308 6, bc BK308 7, bc BK308 8, bc BK309 0, bc BK309 1, bc BK309 2, bc BK309 3, bc BK309 4, bc BK309 5, bc BK309 6, bc BK309 7, bc BK309 8, bc BK309 9, bc BK321 0, bc BK321 1, bc BK321 2, bc BK321 3, bc BK321 4, bc BK321 5, bc BK321 6, bc BK321 7, bc BK321 8, bc BK332 0, bc BK332 1, bc BK332 2, bc BK332 3, bc BK332 4, bc BK332 5, bc BK332 6, bc BK332 7, bc BK332 8, bc BK344 0, bc BK344 1, bc BK344 2, bc BK344 3, bc BK344 4, bc BK344 5, bc BK344 6, bc BK344 7, bc BK344 8, bc BK344 9, bc BK356 0, bc BK356 1, bc BK356 2, bc BK356 3, bc BK356 4, bc BK356 5, bc BK356 6, bc BK356 7, bc BK356 8, bc BK356 9⟩ (fun hHeld => ?_)
                clear hK K
                refine norm_ (a' := ?_) ?_ ?_
                rotate_left
                · show Act.put _ (some 73) _ = _
                  simp only [Act.put, List.setIfInBounds_toArray, List.set_cons_zero, List.set_cons_succ, i64_w, i32_w]
                  rfl
                refine pure_ (i := 35) (N := some 74) (v := ?_) (a' := ?_) #[true, true, true, true, true, true, true, true, true, true, true, true, true, true, true, true, true, true, true, true, true, true, true, true, true, true, true, true, true, true, true, true, true, true, true, true, false, false, false, false, false] rfl rfl (any_of HT_.out (by kernel_rfl)) (fun _ _ _ h => h) (Or.inl ⟨by rfl, ?_⟩) ?_ ?_
                rotate_left
                · intro w'
                  go_simp
                  with_reducible rfl
                rotate_left
                · simp only [Act.put, List.setIfInBounds_toArray, List.set_cons_zero, List.set_cons_succ, i64_w, i32_w]
                  rfl
                refine pure_ (i := 36) (N := some 75) (v := ?_) (a' := ?_) #[true, true, true, true, true, true, true, true, true, true, true, true, true, true, true, true, true, true, true, true, true, true, true, true, true, true, true, true, true, true, true, true, true, true, true, true, true, false, false, false, false] rfl rfl (any_of HT_.out (by kernel_rfl)) (fun _ _ _ h => h) (Or.inl ⟨by rfl, ?_⟩) ?_ ?_
                rotate_left
                · intro w'
                  go_simp
                  with_reducible rfl
                rotate_left
                · simp only [Act.put, List.setIfInBounds_toArray, List.set_cons_zero, List.set_cons_succ, i64_w, i32_w]
                  rfl
                refine pure_ (i := 37) (N := some 76) (v := ?_) (a' := ?_) #[true, true, true, true, true, true, true, true, true, true, true, true, true, true, true, true, true, true, true, true, true, true, true, true, true, true, true, true, true, true, true, true, true, true, true, true, true, true, false, false, false] rfl rfl (any_of HT_.out (by kernel_rfl)) (fun _ _ _ h => h) (Or.inl ⟨by rfl, ?_⟩) ?_ ?_
                rotate_left
                · intro w'
                  go_simp
                  with_reducible rfl
                rotate_left
                · simp only [Act.put, List.setIfInBounds_toArray, List.set_cons_zero, List.set_cons_succ, i64_w, i32_w]
                  rfl
                refine one_ (i := 38) (N := some 77) #[true, true, true, true, true, true, true, true, true, true, true, true, true, true, true, true, true, true, true, true, true, true, true, true, true, true, true, true, true, true, true, true, true, true, true, true, true, true, true, false, false] rfl rfl (one_of HT_.out (by kernel_rfl)) (by decide) (fun K hK => ?_)
                refine goes_ Try.func22 (by kernel_rfl) rfl #[] (by rfl) rfl rfl (by (try simp only [List.map_toArray, List.map_cons, List.map_nil]); first | done | rfl | (simp only [List.length_drop, List.length_take]; rfl)) ?_
                with_reducible refine (stickfullaw06_head.calls k  t379 _ A21.out).mono ?_
                rintro e w74 ⟨rfl, hb⟩
                refine ⟨_, rfl, ?_⟩
                replace BK308 := bb BK308 hb
                replace BK309 := bb BK309 hb
                replace BK310 := bb BK310 hb
                replace BK321 := bb BK321 hb
                replace BK332 := bb BK332 hb
                replace BK344 := bb BK344 hb
                replace BK356 := bb BK356 hb
                replace HB := bh HB hb
                (try clear hb)
                (try clear hb2)
                (try clear hk)
                (try clear hi)
                refine hK.out _ _ ⟨bc BK308 0, bc BK308 1, bc BK308 2, bc BK308 3, bc BK308 4, bc BK308 5, bc BK308 6, bc BK308 7, bc BK308 8, bc BK309 0, bc BK309 1, bc BK309 2, bc BK309 3, bc BK309 4, bc BK309 5, bc BK309 6, bc BK309 7, bc BK309 8, bc BK309 9, bc BK321 0, bc BK321 1, bc BK321 2, bc BK321 3, bc BK321 4, bc BK321 5, bc BK321 6, bc BK321 7, bc BK321 8, bc BK332 0, bc BK332 1, bc BK332 2, bc BK332 3, bc BK332 4, bc BK332 5, bc BK332 6, bc BK332 7, bc BK332 8, bc BK344 0, bc BK344 1, bc BK344 2, bc BK344 3, bc BK344 4, bc BK344 5, bc BK344 6, bc BK344 7, bc BK344 8, bc BK344 9, bc BK356 0, bc BK356 1, bc BK356 2, bc BK356 3, bc BK356 4, bc BK356 5, bc BK356 6, bc BK356 7, bc BK356 8, bc BK356 9⟩ (fun hHeld => ?_)
                clear hK K
                refine norm_ (a' := ?_) ?_ ?_
                rotate_left
                · show Act.put _ (some 77) _ = _
                  simp only [Act.put, List.setIfInBounds_toArray, List.set_cons_zero, List.set_cons_succ, i64_w, i32_w]
                  rfl
                refine pure_ (i := 39) (N := some 78) (v := ?_) (a' := ?_) #[true, true, true, true, true, true, true, true, true, true, true, true, true, true, true, true, true, true, true, true, true, true, true, true, true, true, true, true, true, true, true, true, true, true, true, true, true, true, true, true, false] rfl rfl (any_of HT_.out (by kernel_rfl)) (fun _ _ _ h => h) (Or.inl ⟨by rfl, ?_⟩) ?_ ?_
                rotate_left
                · intro w'
                  go_simp
                  with_reducible rfl
                rotate_left
                · simp only [Act.put, List.setIfInBounds_toArray, List.set_cons_zero, List.set_cons_succ, i64_w, i32_w]
                  rfl
                refine pure_ (i := 40) (N := some 6) (v := ?_) (a' := ?_) #[true, true, true, true, true, true, true, true, true, true, true, true, true, true, true, true, true, true, true, true, true, true, true, true, true, true, true, true, true, true, true, true, true, true, true, true, true, true, true, true, true] rfl rfl (any_of HT_.out (by kernel_rfl)) (fun _ _ _ h => h) (Or.inl ⟨by rfl, ?_⟩) ?_ ?_
                rotate_left
                · intro w'
                  go_simp
                  with_reducible rfl
                rotate_left
                · simp only [Act.put, List.setIfInBounds_toArray, List.set_cons_zero, List.set_cons_succ, i64_w, i32_w]
                  rfl
                refine done_ (done_of HT_.out (by kernel_rfl)) ?_
                try go_wp2
                go_ret
                exact ⟨by first | rfl | (simp [errW_none, errW_some] <;> rfl) | (simp [*, errW_none, errW_some] <;> rfl), by repeat (first | (with_reducible first | exact HB.out | apply below_alloc | apply pw_below_drewN | apply below_drew1 | refine below_set ?_ GE308.out | refine below_set ?_ GE309.out | refine below_set ?_ GE310.out | refine below_set ?_ GE321.out | refine below_set ?_ GE332.out | refine below_set ?_ GE344.out | refine below_set ?_ GE356.out) | exact HB.out)⟩
              · rw [if_neg c20] at H
                have c20b0 : (t361 == t370 && (t362 == t371 && (t363 == t372 && (t364 == t373 && (t365 == t374 && (t366 == t375 && (t367 == t376 && (t368 == t377 && (t369 == t378))))))))) = false := by simpa using c20
                (try (have c20b1 : decide (t361 = t370 && (t362 == t371 && (t363 == t372 && (t364 == t373 && (t365 == t374 && (t366 == t375 && (t367 == t376 && (t368 == t377 && (t369 == t378))))))))) = false := by simpa using c20))
                (try (have c20b2 : (t361 == t370 && (t362 == t371 && (t363 == t372 && (t364 == t373 && (t365 == t374 && (t366 == t375 && (t367 == t376 && (t368 == t377 && (t369 == t378))))))))) = false := by simpa using c20))
                (try (have c20b3 : ¬ (t361 = t370 && (t362 == t371 && (t363 == t372 && (t364 == t373 && (t365 == t374 && (t366 == t375 && (t367 == t376 && (t368 == t377 && (t369 == t378))))))))) := by simpa using c20))
                clear c20
                exact absurd ((Option.some.inj H).trans HR_.out) (by decide)
            · rw [if_neg c17] at H
              have c17b0 : (t343 == t355) = false := beq_eq_false_iff_ne.mpr c17
              have c17b1 : (t343 != t355) = true := bne_iff_ne.mpr c17
              exact absurd ((Option.some.inj H).trans HR_.out) (by decide)
          · rw [if_neg c16] at H
            have c16b0 : (t333 == t345 && ((t334 == t346 && (t335 == t347 && (t336 == t348 && (t337 == t349 && (t338 == t350 && (t339 == t351 && (t340 == t352 && (t341 == t353 && (t342 == t354))))))))))) = false := by simpa using c16
            (try (have c16b1 : decide (t333 = t345 && ((t334 == t346 && (t335 == t347 && (t336 == t348 && (t337 == t349 && (t338 == t350 && (t339 == t351 && (t340 == t352 && (t341 == t353 && (t342 == t354))))))))))) = false := by simpa using c16))
            (try (have c16b2 : (t333 == t345 && ((t334 == t346 && (t335 == t347 && (t336 == t348 && (t337 == t349 && (t338 == t350 && (t339 == t351 && (t340 == t352 && (t341 == t353 && (t342 == t354))))))))))) = false := by simpa using c16))
            (try (have c16b3 : ¬ (t333 = t345 && ((t334 == t346 && (t335 == t347 && (t336 == t348 && (t337 == t349 && (t338 == t350 && (t339 == t351 && (t340 == t352 && (t341 == t353 && (t342 == t354))))))))))) := by simpa using c16))
            clear c16
            exact absurd ((Option.some.inj H).trans HR_.out) (by decide)
        · rw [if_neg c15] at H
          have c15b0 : (t320 == t331) = false := beq_eq_false_iff_ne.mpr c15
          have c15b1 : (t320 != t331) = true := bne_iff_ne.mpr c15
          exact absurd ((Option.some.inj H).trans HR_.out) (by decide)
      · rw [if_neg c14] at H
        have c14b0 : (t311 == t322 && (t312 == t323 && (t313 == t324 && (t314 == t325 && (t315 == t326 && (t316 == t327 && (t317 == t328 && (t318 == t329 && (t319 == t330))))))))) = false := by simpa using c14
        (try (have c14b1 : decide (t311 = t322 && (t312 == t323 && (t313 == t324 && (t314 == t325 && (t315 == t326 && (t316 == t327 && (t317 == t328 && (t318 == t329 && (t319 == t330))))))))) = false := by simpa using c14))
        (try (have c14b2 : (t311 == t322 && (t312 == t323 && (t313 == t324 && (t314 == t325 && (t315 == t326 && (t316 == t327 && (t317 == t328 && (t318 == t329 && (t319 == t330))))))))) = false := by simpa using c14))
        (try (have c14b3 : ¬ (t311 = t322 && (t312 == t323 && (t313 == t324 && (t314 == t325 && (t315 == t326 && (t316 == t327 && (t317 == t328 && (t318 == t329 && (t319 == t330))))))))) := by simpa using c14))
        clear c14
        exact absurd ((Option.some.inj H).trans HR_.out) (by decide)
    · rw [if_neg c13] at H
      have c13b0 : (t359 == t360) = false := beq_eq_false_iff_ne.mpr c13
      have c13b1 : (t359 != t360) = true := bne_iff_ne.mpr c13
      exact absurd ((Option.some.inj H).trans HR_.out) (by decide)
  · rw [if_neg c10] at H
    have c10b0 : (t357 == t358) = false := beq_eq_false_iff_ne.mpr c10
    have c10b1 : (t357 != t358) = true := bne_iff_ne.mpr c10
    exact absurd ((Option.some.inj H).trans HR_.out) (by decide)

end Go.Proofs.Ytahpkfmgeifenaa.HStyle
