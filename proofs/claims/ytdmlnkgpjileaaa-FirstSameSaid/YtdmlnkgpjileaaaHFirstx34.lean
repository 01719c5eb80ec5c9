-- Written by this claim's own program over the kit's print.
import Derived.Test.YtdmlnkgpjileaaaM3
import Derived.Test.YtdmlnkgpjileaaaHFirstx16
import Derived.Test.YtdmlnkgpjileaaaHFirstx18
import Derived.Test.YtdmlnkgpjileaaaHFirstx21
import Derived.Test.YtdmlnkgpjileaaaHFirstx33
namespace Go.Proofs.Ytdmlnkgpjileaaa.HFirst
open Go.RowKit Go.Proofs.YtdmlnkgpjileaaaW.PrintWords Go.Proofs.YtdmlnkgpjileaaaW.PrintLast Go.Proofs.YtdmlnkgpjileaaaW.PrintMore Go.Proofs.Ytdmlnkgpjileaaa.Hand
attribute [local go_sem] max2_int min2_int max_two min_two max_three min_three max_four min_four   -- for this text's walks alone
set_option linter.unusedVariables false
set_option linter.unusedSimpArgs false

attribute [local go_sem high] eqA43
/-- Which operations have been taken: the bits of a number. -/
def stickfullaw15_FirstSame.bits : Nat → Nat → List Bool
 | 0, _ => []
 | n + 1, m => Nat.beq (m % 2) 1 :: stickfullaw15_FirstSame.bits n (m / 2)
def stickfullaw15_FirstSame.bm (n m : Nat) : Array Bool := (stickfullaw15_FirstSame.bits n m).toArray
/-! ### stickfullaw15_FirstSame: function 6 -/
mutual
def stickfullaw15_FirstSame.j0 : Nat → Bool → List (S46) → List (S46) → Int → Int → Int → Int → Option (Bool)
 | 0, _, _, _, _, _, _, _ => none
 | k + 1, x47, x460000, x460001, x460002, x460003, x460004, x460005 => if x47 = true then (some false) else ((first_Lines.f k x460000 x460001 x460002 x460003 x460004 x460005).bind fun bt471 => (if bt471.2 = 0 then (stickfullaw15_FirstSame.j1 k bt471.1 bt471.2 ((bt471.1.length : Int) == 0) x460000 x460001 x460002 x460003 x460004 x460005) else (stickfullaw15_FirstSame.j1 k bt471.1 bt471.2 true x460000 x460001 x460002 x460003 x460004 x460005)))
def stickfullaw15_FirstSame.j1 : Nat → List (S43) → Int → Bool → List (S46) → List (S46) → Int → Int → Int → Int → Option (Bool)
 | 0, _, _, _, _, _, _, _, _, _ => none
 | k + 1, x7, x8, x66, x460000, x460001, x460002, x460003, x460004, x460005 => if x66 = true then (if x8 = 0 then (some false) else ((stickfullaw15_head.f k).bind fun t475 => (some t475))) else ((fill_One.f k x460000 0 x460002 x460003).bind fun bt476 => (if bt476.2.2.2 = 0 then (if 0 < (x7.length : Int) then (stickfullaw15_FirstSame.j2 k x7 (!(((rd_T43 x7 0).f0) == bt476.1) || (!(((rd_T43 x7 0).f1) == bt476.2.1) || (!(((rd_T43 x7 0).f2) == bt476.2.2.1)))) x460000 x460001 x460002 x460003 x460004 x460005) else (none)) else (stickfullaw15_FirstSame.j2 k x7 true x460000 x460001 x460002 x460003 x460004 x460005)))
def stickfullaw15_FirstSame.j2 : Nat → List (S43) → Bool → List (S46) → List (S46) → Int → Int → Int → Int → Option (Bool)
 | 0, _, _, _, _, _, _, _, _ => none
 | k + 1, x7, x88, x460000, x460001, x460002, x460003, x460004, x460005 => if x88 = true then (some false) else (stickfullaw15_FirstSame.l0 k x7 1 x460000 x460001 x460002 x460003 x460004 x460005)
def stickfullaw15_FirstSame.l0 : Nat → List (S43) → Int → List (S46) → List (S46) → Int → Int → Int → Int → Option (Bool)
 | 0, _, _, _, _, _, _, _, _ => none
 | k + 1, x7, x11, x460000, x460001, x460002, x460003, x460004, x460005 => if x11 < (x7.length : Int) then (if 0 ≤ (wrap64 (x11 - 1)) then (if (wrap64 (x11 - 1)) < (x7.length : Int) then ((fill_One.f k x460001 ((rd_T43 x7 (wrap64 (x11 - 1))).f1) x460004 x460005).bind fun bt483 => (if bt483.2.2.2 = 0 then (if 0 ≤ x11 then (if (!(bt483.1 == ((rd_T43 x7 x11).f0)) || (!(bt483.2.1 == ((rd_T43 x7 x11).f1)) || (!(bt483.2.2.1 == ((rd_T43 x7 x11).f2))))) = true then (some false) else (stickfullaw15_FirstSame.l0 k x7 (wrap64 (x11 + 1)) x460000 x460001 x460002 x460003 x460004 x460005)) else (none)) else (some false))) else (none)) else (none)) else ((stickfullaw15_head.f k).bind fun t489 => (some t489))
end
def stickfullaw15_FirstSame.f (k : Nat) (l0_0 : List (S46)) (l0_1 : List (S46)) (a0_2 a0_3 a0_4 a0_5 : Int) : Option (Bool) := (stickfullaw15_great.f l0_0 l0_1 a0_2 a0_3 a0_4 a0_5).bind fun t460 => (if t460 = true then ((stickfullaw15_head.f k).bind fun t461 => (some t461)) else ((first_Lines.f k l0_0 l0_0 a0_2 a0_3 a0_4 a0_5).bind fun bt462 => ((fill_Lines.f k l0_0 a0_2 a0_3 a0_4 a0_5).bind fun bt466 => (if bt462.2 = bt466.2 then ((stickfulref14_Same.f k bt462.1 bt466.1).bind fun t470 => (stickfullaw15_FirstSame.j0 k (!t470) l0_0 l0_1 a0_2 a0_3 a0_4 a0_5)) else (stickfullaw15_FirstSame.j0 k true l0_0 l0_1 a0_2 a0_3 a0_4 a0_5)))))
theorem stickfullaw15_FirstSame.mono_l : ∀ k, (∀ y0 y1 y2 y3 y4 y5 y6, LeO (stickfullaw15_FirstSame.j0 k y0 y1 y2 y3 y4 y5 y6) (stickfullaw15_FirstSame.j0 (k + 1) y0 y1 y2 y3 y4 y5 y6)) ∧ (∀ y0 y1 y2 y3 y4 y5 y6 y7 y8, LeO (stickfullaw15_FirstSame.j1 k y0 y1 y2 y3 y4 y5 y6 y7 y8) (stickfullaw15_FirstSame.j1 (k + 1) y0 y1 y2 y3 y4 y5 y6 y7 y8)) ∧ (∀ y0 y1 y2 y3 y4 y5 y6 y7, LeO (stickfullaw15_FirstSame.j2 k y0 y1 y2 y3 y4 y5 y6 y7) (stickfullaw15_FirstSame.j2 (k + 1) y0 y1 y2 y3 y4 y5 y6 y7)) ∧ (∀ y0 y1 y2 y3 y4 y5 y6 y7, LeO (stickfullaw15_FirstSame.l0 k y0 y1 y2 y3 y4 y5 y6 y7) (stickfullaw15_FirstSame.l0 (k + 1) y0 y1 y2 y3 y4 y5 y6 y7))
 | 0 => ⟨fun _ _ _ _ _ _ _ r h => by simp [stickfullaw15_FirstSame.j0] at h, fun _ _ _ _ _ _ _ _ _ r h => by simp [stickfullaw15_FirstSame.j1] at h, fun _ _ _ _ _ _ _ _ r h => by simp [stickfullaw15_FirstSame.j2] at h, fun _ _ _ _ _ _ _ _ r h => by simp [stickfullaw15_FirstSame.l0] at h⟩
 | k + 1 => by
  obtain ⟨ih0, ih1, ih2, ih3⟩ := stickfullaw15_FirstSame.mono_l k
  refine ⟨?_, ?_, ?_, ?_⟩
  ·intro y0 y1 y2 y3 y4 y5 y6
   unfold stickfullaw15_FirstSame.j0
   repeat' first
   | (with_reducible exact ih0 _ _ _ _ _ _ _)
   | (with_reducible exact ih1 _ _ _ _ _ _ _ _ _)
   | (with_reducible exact ih2 _ _ _ _ _ _ _ _)
   | (with_reducible exact ih3 _ _ _ _ _ _ _ _)
   | (with_reducible exact fill_Lines.mono _ _ _ _ _ _)
   | (with_reducible exact fill_One.mono _ _ _ _ _)
   | (with_reducible exact first_Lines.mono _ _ _ _ _ _ _)
   | (with_reducible exact stickfullaw15_head.mono _)
   | (with_reducible exact stickfulref14_Same.mono _ _ _)
   | (with_reducible exact LeO.refl _)
   | (with_reducible exact LeO.none _)
   | (with_reducible refine LeO.ite ?_ ?_)
   | (with_reducible refine LeO.bind ?_ (fun _ => ?_))
   | exact ih0 _ _ _ _ _ _ _
   | exact ih1 _ _ _ _ _ _ _ _ _
   | exact ih2 _ _ _ _ _ _ _ _
   | exact ih3 _ _ _ _ _ _ _ _
   | exact fill_Lines.mono _ _ _ _ _ _
   | exact fill_One.mono _ _ _ _ _
   | exact first_Lines.mono _ _ _ _ _ _ _
   | exact stickfullaw15_head.mono _
   | exact stickfulref14_Same.mono _ _ _
   | exact LeO.none _
   | refine LeO.ite ?_ ?_
   | refine LeO.bind ?_ (fun _ => ?_)
  ·intro y0 y1 y2 y3 y4 y5 y6 y7 y8
   unfold stickfullaw15_FirstSame.j1
   repeat' first
   | (with_reducible exact ih0 _ _ _ _ _ _ _)
   | (with_reducible exact ih1 _ _ _ _ _ _ _ _ _)
   | (with_reducible exact ih2 _ _ _ _ _ _ _ _)
   | (with_reducible exact ih3 _ _ _ _ _ _ _ _)
   | (with_reducible exact fill_Lines.mono _ _ _ _ _ _)
   | (with_reducible exact fill_One.mono _ _ _ _ _)
   | (with_reducible exact first_Lines.mono _ _ _ _ _ _ _)
   | (with_reducible exact stickfullaw15_head.mono _)
   | (with_reducible exact stickfulref14_Same.mono _ _ _)
   | (with_reducible exact LeO.refl _)
   | (with_reducible exact LeO.none _)
   | (with_reducible refine LeO.ite ?_ ?_)
   | (with_reducible refine LeO.bind ?_ (fun _ => ?_))
   | exact ih0 _ _ _ _ _ _ _
   | exact ih1 _ _ _ _ _ _ _ _ _
   | exact ih2 _ _ _ _ _ _ _ _
   | exact ih3 _ _ _ _ _ _ _ _
   | exact fill_Lines.mono _ _ _ _ _ _
   | exact fill_One.mono _ _ _ _ _
   | exact first_Lines.mono _ _ _ _ _ _ _
   | exact stickfullaw15_head.mono _
   | exact stickfulref14_Same.mono _ _ _
   | exact LeO.none _
   | refine LeO.ite ?_ ?_
   | refine LeO.bind ?_ (fun _ => ?_)
  ·intro y0 y1 y2 y3 y4 y5 y6 y7
   unfold stickfullaw15_FirstSame.j2
   repeat' first
   | (with_reducible exact ih0 _ _ _ _ _ _ _)
   | (with_reducible exact ih1 _ _ _ _ _ _ _ _ _)
   | (with_reducible exact ih2 _ _ _ _ _ _ _ _)
   | (with_reducible exact ih3 _ _ _ _ _ _ _ _)
   | (with_reducible exact fill_Lines.mono _ _ _ _ _ _)
   | (with_reducible exact fill_One.mono _ _ _ _ _)
   | (with_reducible exact first_Lines.mono _ _ _ _ _ _ _)
   | (with_reducible exact stickfullaw15_head.mono _)
   | (with_reducible exact stickfulref14_Same.mono _ _ _)
   | (with_reducible exact LeO.refl _)
   | (with_reducible exact LeO.none _)
   | (with_reducible refine LeO.ite ?_ ?_)
   | (with_reducible refine LeO.bind ?_ (fun _ => ?_))
   | exact ih0 _ _ _ _ _ _ _
   | exact ih1 _ _ _ _ _ _ _ _ _
   | exact ih2 _ _ _ _ _ _ _ _
   | exact ih3 _ _ _ _ _ _ _ _
   | exact fill_Lines.mono _ _ _ _ _ _
   | exact fill_One.mono _ _ _ _ _
   | exact first_Lines.mono _ _ _ _ _ _ _
   | exact stickfullaw15_head.mono _
   | exact stickfulref14_Same.mono _ _ _
   | exact LeO.none _
   | refine LeO.ite ?_ ?_
   | refine LeO.bind ?_ (fun _ => ?_)
  ·intro y0 y1 y2 y3 y4 y5 y6 y7
   unfold stickfullaw15_FirstSame.l0
   repeat' first
   | (with_reducible exact ih0 _ _ _ _ _ _ _)
   | (with_reducible exact ih1 _ _ _ _ _ _ _ _ _)
   | (with_reducible exact ih2 _ _ _ _ _ _ _ _)
   | (with_reducible exact ih3 _ _ _ _ _ _ _ _)
   | (with_reducible exact fill_Lines.mono _ _ _ _ _ _)
   | (with_reducible exact fill_One.mono _ _ _ _ _)
   | (with_reducible exact first_Lines.mono _ _ _ _ _ _ _)
   | (with_reducible exact stickfullaw15_head.mono _)
   | (with_reducible exact stickfulref14_Same.mono _ _ _)
   | (with_reducible exact LeO.refl _)
   | (with_reducible exact LeO.none _)
   | (with_reducible refine LeO.ite ?_ ?_)
   | (with_reducible refine LeO.bind ?_ (fun _ => ?_))
   | exact ih0 _ _ _ _ _ _ _
   | exact ih1 _ _ _ _ _ _ _ _ _
   | exact ih2 _ _ _ _ _ _ _ _
   | exact ih3 _ _ _ _ _ _ _ _
   | exact fill_Lines.mono _ _ _ _ _ _
   | exact fill_One.mono _ _ _ _ _
   | exact first_Lines.mono _ _ _ _ _ _ _
   | exact stickfullaw15_head.mono _
   | exact stickfulref14_Same.mono _ _ _
   | exact LeO.none _
   | refine LeO.ite ?_ ?_
   | refine LeO.bind ?_ (fun _ => ?_)
theorem stickfullaw15_FirstSame.mono : ∀ a0 a1 a2 a3 a4 a5 k, LeO (stickfullaw15_FirstSame.f k a0 a1 a2 a3 a4 a5) (stickfullaw15_FirstSame.f (k + 1) a0 a1 a2 a3 a4 a5) := by
 intro a0 a1 a2 a3 a4 a5 k
 obtain ⟨ih0, ih1, ih2, ih3⟩ := stickfullaw15_FirstSame.mono_l k
 unfold stickfullaw15_FirstSame.f
 repeat' first
   | (with_reducible exact ih0 _ _ _ _ _ _ _)
   | (with_reducible exact ih1 _ _ _ _ _ _ _ _ _)
   | (with_reducible exact ih2 _ _ _ _ _ _ _ _)
   | (with_reducible exact ih3 _ _ _ _ _ _ _ _)
   | (with_reducible exact fill_Lines.mono _ _ _ _ _ _)
   | (with_reducible exact fill_One.mono _ _ _ _ _)
   | (with_reducible exact first_Lines.mono _ _ _ _ _ _ _)
   | (with_reducible exact stickfullaw15_head.mono _)
   | (with_reducible exact stickfulref14_Same.mono _ _ _)
   | (with_reducible exact LeO.refl _)
   | (with_reducible exact LeO.none _)
   | (with_reducible refine LeO.ite ?_ ?_)
   | (with_reducible refine LeO.bind ?_ (fun _ => ?_))
   | exact ih0 _ _ _ _ _ _ _
   | exact ih1 _ _ _ _ _ _ _ _ _
   | exact ih2 _ _ _ _ _ _ _ _
   | exact ih3 _ _ _ _ _ _ _ _
   | exact fill_Lines.mono _ _ _ _ _ _
   | exact fill_One.mono _ _ _ _ _
   | exact first_Lines.mono _ _ _ _ _ _ _
   | exact stickfullaw15_head.mono _
   | exact stickfulref14_Same.mono _ _ _
   | exact LeO.none _
   | refine LeO.ite ?_ ?_
   | refine LeO.bind ?_ (fun _ => ?_)
def stickfullaw15_FirstSame.T11 : Bool × List (List Nat × List Nat) := (true, [([], []), ([0], [0]), ([1], [1]), ([2], [2]), ([3, 2], [2, 3]), ([4, 2], [2, 4]), ([2], [2]), ([5, 6, 2], [2, 5, 6]), ([2, 7], [2, 7])])
def stickfullaw15_FirstSame.B11 : List Nat := [0, 1, 3, 7, 15, 31, 7, 127, 255]
theorem stickfullaw15_FirstSame.tab11 : rtab .any (opsOf Try.f6 11) = stickfullaw15_FirstSame.T11 := by kernel_rfl
theorem stickfullaw15_FirstSame.bits11 : waitsOk stickfullaw15_FirstSame.T11.2 stickfullaw15_FirstSame.B11 = true := by kernel_rfl
def stickfullaw15_FirstSame.T16 : Bool × List (List Nat × List Nat) := (true, [([], []), ([0], [0]), ([], []), ([], []), ([3], [3]), ([2, 4], [2, 4]), ([5], [5]), ([6], [6]), ([], []), ([8], [8]), ([1, 7, 9], [1, 7, 9]), ([10], [10]), ([11], [11]), ([11], [11]), ([], []), ([14, 12, 10, 0, 1, 2, 3, 4, 5, 6, 7, 8, 9, 10, 11, 12, 14], [12, 14]), ([13, 15, 0, 1, 2, 3, 4, 5, 6, 7, 8, 9, 10, 11, 12, 13, 14, 15], [13])])
def stickfullaw15_FirstSame.B16 : List Nat := [0, 1, 0, 0, 8, 28, 60, 124, 0, 256, 1023, 2047, 4095, 4095, 0, 24575, 65535]
theorem stickfullaw15_FirstSame.tab16 : rtab .any (opsOf Try.f6 16) = stickfullaw15_FirstSame.T16 := by kernel_rfl
theorem stickfullaw15_FirstSame.bits16 : waitsOk stickfullaw15_FirstSame.T16.2 stickfullaw15_FirstSame.B16 = true := by kernel_rfl
def stickfullaw15_FirstSame.T17 : Bool × List (List Nat × List Nat) := (true, [([], []), ([0], [0]), ([1], [1]), ([2], [2]), ([2], [2]), ([2], [2]), ([4, 5, 2], [2, 4, 5]), ([6, 2], [2, 6]), ([3, 7, 2], [2, 3, 7]), ([2, 8], [2, 8])])
def stickfullaw15_FirstSame.B17 : List Nat := [0, 1, 3, 7, 7, 7, 55, 119, 255, 511]
theorem stickfullaw15_FirstSame.tab17 : rtab .any (opsOf Try.f6 17) = stickfullaw15_FirstSame.T17 := by kernel_rfl
theorem stickfullaw15_FirstSame.bits17 : waitsOk stickfullaw15_FirstSame.T17.2 stickfullaw15_FirstSame.B17 = true := by kernel_rfl
set_option maxHeartbeats 8000000 in
set_option maxRecDepth 100000 in
theorem stickfullaw15_FirstSame.calls_t (k : Nat) (A0_0 : Option Addr) (c0_0 : Nat) (l0_0 : List (S46)) (A0_1 : Option Addr) (c0_1 : Nat) (l0_1 : List (S46)) (a0_2 a0_3 a0_4 a0_5 : Int) (r : Bool) (w : World) (hr0_0 : Kd.C k46 w A0_0 l0_0.length l0_0) (hc0_0 : l0_0.length ≤ c0_0) (hr0_1 : Kd.C k46 w A0_1 l0_1.length l0_1) (hc0_1 : l0_1.length ≤ c0_1) (h : stickfullaw15_FirstSame.f k l0_0 l0_1 a0_2 a0_3 a0_4 a0_5 = some r) (hr_ : r = true) :
  Calls Try.prog 6 #[.agg #[.slice A0_0 l0_0.length c0_0, .slice A0_1 l0_1.length c0_1, .int .i64 a0_2, .int .i64 a0_3, .int .i64 a0_4, .int .i64 a0_5]] w fun e w' => e = .returned (.bool r) ∧ Below w.heap.size w w' := by
 have hu26 := Try.underlying26
 have hu24 := Try.underlying24
 have hu43 := Try.underlying43
 have HR_ := Aside0.mk hr_
 clear hr_
 have HR0_0 := Aside0.mk hr0_0
 have HC0_0 := Aside0.mk hc0_0
 clear hr0_0 hc0_0
 have HR0_1 := Aside0.mk hr0_1
 have HC0_1 := Aside0.mk hc0_1
 clear hr0_1 hc0_1
 have HB := Aside0.mk (Below.refl w.heap.size w)
 have H : ((stickfullaw15_great.f l0_0 l0_1 a0_2 a0_3 a0_4 a0_5).bind fun t460 => (if t460 = true then ((stickfullaw15_head.f k).bind fun t461 => (some t461)) else ((first_Lines.f k l0_0 l0_0 a0_2 a0_3 a0_4 a0_5).bind fun bt462 => ((fill_Lines.f k l0_0 a0_2 a0_3 a0_4 a0_5).bind fun bt466 => (if bt462.2 = bt466.2 then ((stickfulref14_Same.f k bt462.1 bt466.1).bind fun t470 => (stickfullaw15_FirstSame.j0 k (!t470) l0_0 l0_1 a0_2 a0_3 a0_4 a0_5)) else (stickfullaw15_FirstSame.j0 k true l0_0 l0_1 a0_2 a0_3 a0_4 a0_5)))))) = some r := h
 clear h
 replace H := Option.bind_eq_some_iff.mp H
 obtain ⟨t460, A20, H⟩ := H
 replace H : (if t460 = true then ((stickfullaw15_head.f k).bind fun t461 => (some t461)) else ((first_Lines.f k l0_0 l0_0 a0_2 a0_3 a0_4 a0_5).bind fun bt462 => ((fill_Lines.f k l0_0 a0_2 a0_3 a0_4 a0_5).bind fun bt466 => (if bt462.2 = bt466.2 then ((stickfulref14_Same.f k bt462.1 bt466.1).bind fun t470 => (stickfullaw15_FirstSame.j0 k (!t470) l0_0 l0_1 a0_2 a0_3 a0_4 a0_5)) else (stickfullaw15_FirstSame.j0 k true l0_0 l0_1 a0_2 a0_3 a0_4 a0_5))))) = some r := H
 have A2 := Aside0.mk A20
 clear A20
 by_cases c3 : t460 = true
 ·subst c3
  have H1 : ((stickfullaw15_head.f k).bind fun t461 => (some t461)) = some r := by rw [if_pos rfl] at H; exact H
  clear H
  have H := H1
  clear H1
  replace H := Option.bind_eq_some_iff.mp H
  obtain ⟨t461, A40, H⟩ := H
  replace H : (some t461) = some r := H
  have A4 := Aside0.mk A40
  clear A40
  obtain rfl := Option.some.inj H
  go_enter Try.func6, Try.ntmps6
  go_wp2_with (first | ((with_reducible refine gate_dst (N := 1) rfl ?_); (try (refine gate_guard (by rfl) ?_; dsimp only)); refine box_event ?hg (N := 1) ?hd (cs := #[.slice A0_0 l0_0.length c0_0, .slice A0_1 l0_1.length c0_1, .int .i64 a0_2, .int .i64 a0_3, .int .i64 a0_4, .int .i64 a0_5]) (t := 26) ?hr ?_; (case hd => rfl); (case hg => rfl); (case hr => first | (go_simp; done) | (go_simp; rfl)); intro gb459 hg w5 hbox hb; have BK459 := Aside0.mk (hbox); have GW459 := bge HB hg; have GE459 := bge HB hg; replace HB := bh HB hb; clear hb hbox hg; obtain ⟨hcz6_0, hcz6_1, hcz6_2, hcz6_3, hcz6_4, hcz6_5⟩ := cz6 BK459; obtain ⟨hfz6_0, hfz6_1, hfz6_2, hfz6_3, hfz6_4, hfz6_5⟩ := fz6 BK459) | ((with_reducible refine gate_callee (f := 7) rfl ?_); refine goesB (some 15) rfl rfl Try.func7 #[.agg #[.slice A0_0 l0_0.length c0_0, .slice A0_1 l0_1.length c0_1, .int .i64 a0_2, .int .i64 a0_3, .int .i64 a0_4, .int .i64 a0_5]] rfl ?_; (with_reducible refine (stickfullaw15_great.calls _ _ l0_0 _ _ l0_1 a0_2 a0_3 a0_4 a0_5 true _ ?side1 ?side2 ?side3 ?side4 A2.out).mono ?_); (case side1 => repeat (first | exact (Kd.C_below HR0_0.out HB.out) | (with_reducible refine Kd.C_alloc ?_ _) | (with_reducible refine Kd.C_drewN ?_ _) | (with_reducible refine Kd.C_drew ?_))); (case side2 => exact HC0_0.out); (case side3 => repeat (first | exact (Kd.C_below HR0_1.out HB.out) | (with_reducible refine Kd.C_alloc ?_ _) | (with_reducible refine Kd.C_drewN ?_ _) | (with_reducible refine Kd.C_drew ?_))); (case side4 => exact HC0_1.out); rintro e w7 ⟨rfl, hb⟩; refine ⟨_, rfl, ?_⟩; replace BK459 := bb BK459 hb; replace HB := bh HB hb; (try clear hb); (try clear hb2); (try clear hk); (try clear hi)) | ((with_reducible refine gate_callee (f := 8) rfl ?_); refine goesB (some 16) rfl rfl Try.func8 #[] rfl ?_; (with_reducible refine (stickfullaw15_head.calls k  t461 _ A4.out).mono ?_); rintro e w8 ⟨rfl, hb⟩; refine ⟨_, rfl, ?_⟩; replace BK459 := bb BK459 hb; replace HB := bh HB hb; (try clear hb); (try clear hb2); (try clear hk); (try clear hi)))
  go_ret
  exact ⟨by first | rfl | (simp [errW_none, errW_some] <;> rfl) | (simp [*, errW_none, errW_some] <;> rfl), by repeat (first | (with_reducible first | exact HB.out | apply below_alloc | apply pw_below_drewN | apply below_drew1 | refine below_set ?_ GE459.out) | exact HB.out)⟩
 ·replace c3 := Bool.eq_false_iff.mpr c3
  subst c3
  have H1 : ((first_Lines.f k l0_0 l0_0 a0_2 a0_3 a0_4 a0_5).bind fun bt462 => ((fill_Lines.f k l0_0 a0_2 a0_3 a0_4 a0_5).bind fun bt466 => (if bt462.2 = bt466.2 then ((stickfulref14_Same.f k bt462.1 bt466.1).bind fun t470 => (stickfullaw15_FirstSame.j0 k (!t470) l0_0 l0_1 a0_2 a0_3 a0_4 a0_5)) else (stickfullaw15_FirstSame.j0 k true l0_0 l0_1 a0_2 a0_3 a0_4 a0_5)))) = some r := by rw [if_neg (show ¬ (false = true) by decide)] at H; exact H
  clear H
  have H := H1
  clear H1
  replace H := Option.bind_eq_some_iff.mp H
  obtain ⟨⟨t462, t465⟩, A90, H⟩ := H
  replace H : ((fill_Lines.f k l0_0 a0_2 a0_3 a0_4 a0_5).bind fun bt466 => (if t465 = bt466.2 then ((stickfulref14_Same.f k t462 bt466.1).bind fun t470 => (stickfullaw15_FirstSame.j0 k (!t470) l0_0 l0_1 a0_2 a0_3 a0_4 a0_5)) else (stickfullaw15_FirstSame.j0 k true l0_0 l0_1 a0_2 a0_3 a0_4 a0_5))) = some r := H
  have A9 := Aside0.mk A90
  clear A90
  replace H := Option.bind_eq_some_iff.mp H
  obtain ⟨⟨t466, t469⟩, A100, H⟩ := H
  replace H : (if t465 = t469 then ((stickfulref14_Same.f k t462 t466).bind fun t470 => (stickfullaw15_FirstSame.j0 k (!t470) l0_0 l0_1 a0_2 a0_3 a0_4 a0_5)) else (stickfullaw15_FirstSame.j0 k true l0_0 l0_1 a0_2 a0_3 a0_4 a0_5)) = some r := H
  have A10 := Aside0.mk A100
  clear A100
  have HC11 := Aside0.mk H
  clear H
  go_enter Try.func6, Try.ntmps6
  go_upto_region 5 with (first | ((with_reducible refine gate_dst (N := 1) rfl ?_); (try (refine gate_guard (by rfl) ?_; dsimp only)); refine box_event ?hg (N := 1) ?hd (cs := #[.slice A0_0 l0_0.length c0_0, .slice A0_1 l0_1.length c0_1, .int .i64 a0_2, .int .i64 a0_3, .int .i64 a0_4, .int .i64 a0_5]) (t := 26) ?hr ?_; (case hd => rfl); (case hg => rfl); (case hr => first | (go_simp; done) | (go_simp; rfl)); intro gb459 hg w12 hbox hb; have BK459 := Aside0.mk (hbox); have GW459 := bge HB hg; have GE459 := bge HB hg; replace HB := bh HB hb; clear hb hbox hg; obtain ⟨hcz13_0, hcz13_1, hcz13_2, hcz13_3, hcz13_4, hcz13_5⟩ := cz6 BK459; obtain ⟨hfz13_0, hfz13_1, hfz13_2, hfz13_3, hfz13_4, hfz13_5⟩ := fz6 BK459) | ((with_reducible refine gate_callee (f := 7) rfl ?_); refine goesB (some 15) rfl rfl Try.func7 #[.agg #[.slice A0_0 l0_0.length c0_0, .slice A0_1 l0_1.length c0_1, .int .i64 a0_2, .int .i64 a0_3, .int .i64 a0_4, .int .i64 a0_5]] rfl ?_; (with_reducible refine (stickfullaw15_great.calls _ _ l0_0 _ _ l0_1 a0_2 a0_3 a0_4 a0_5 false _ ?side1 ?side2 ?side3 ?side4 A2.out).mono ?_); (case side1 => repeat (first | exact (Kd.C_below HR0_0.out HB.out) | (with_reducible refine Kd.C_alloc ?_ _) | (with_reducible refine Kd.C_drewN ?_ _) | (with_reducible refine Kd.C_drew ?_))); (case side2 => exact HC0_0.out); (case side3 => repeat (first | exact (Kd.C_below HR0_1.out HB.out) | (with_reducible refine Kd.C_alloc ?_ _) | (with_reducible refine Kd.C_drewN ?_ _) | (with_reducible refine Kd.C_drew ?_))); (case side4 => exact HC0_1.out); rintro e w14 ⟨rfl, hb⟩; refine ⟨_, rfl, ?_⟩; replace BK459 := bb BK459 hb; replace HB := bh HB hb; (try clear hb); (try clear hb2); (try clear hk); (try clear hi); obtain ⟨hcz15_0, hcz15_1, hcz15_2, hcz15_3, hcz15_4, hcz15_5⟩ := cz6 BK459; obtain ⟨hfz15_0, hfz15_1, hfz15_2, hfz15_3, hfz15_4, hfz15_5⟩ := fz6 BK459) | ((with_reducible refine gate_callee (f := 9) rfl ?_); refine goesB (some 26) rfl rfl Try.func9 #[.slice A0_0 l0_0.length c0_0, .slice A0_0 l0_0.length c0_0, .agg #[.int .i64 a0_2, .int .i64 a0_3], .agg #[.int .i64 a0_4, .int .i64 a0_5]] rfl ?_; (with_reducible refine (first_Lines.calls k _ _ l0_0 _ _ l0_0 a0_2 a0_3 a0_4 a0_5 t462 t465 _ ?side1 ?side2 ?side3 ?side4 A9.out).mono ?_); (case side1 => repeat (first | exact (Kd.C_below HR0_0.out HB.out) | (with_reducible refine Kd.C_alloc ?_ _) | (with_reducible refine Kd.C_drewN ?_ _) | (with_reducible refine Kd.C_drew ?_))); (case side2 => exact HC0_0.out); (case side3 => repeat (first | exact (Kd.C_below HR0_0.out HB.out) | (with_reducible refine Kd.C_alloc ?_ _) | (with_reducible refine Kd.C_drewN ?_ _) | (with_reducible refine Kd.C_drew ?_))); (case side4 => exact HC0_0.out); rintro e w16 ⟨v463, rfl, ho0, hb⟩; refine ⟨_, rfl, ?_⟩; have HO464 := Aside0.mk (Kd.R_lower ho0 (below_size (bw HB))); replace BK459 := bb BK459 hb; replace HB := bh HB hb; (try clear hb); (try clear hb2); (try clear hk); (try clear hi); (try clear ho0); obtain ⟨hcz17_0, hcz17_1, hcz17_2, hcz17_3, hcz17_4, hcz17_5⟩ := cz6 BK459; obtain ⟨hfz17_0, hfz17_1, hfz17_2, hfz17_3, hfz17_4, hfz17_5⟩ := fz6 BK459) | ((with_reducible refine gate_callee (f := 17) rfl ?_); refine goesB (some 36) rfl rfl Try.func17 #[.slice A0_0 l0_0.length c0_0, .agg #[.int .i64 a0_2, .int .i64 a0_3], .agg #[.int .i64 a0_4, .int .i64 a0_5]] rfl ?_; (with_reducible refine (fill_Lines.calls k _ _ l0_0 a0_2 a0_3 a0_4 a0_5 t466 t469 _ ?side1 ?side2 A10.out).mono ?_); (case side1 => repeat (first | exact (Kd.C_below HR0_0.out HB.out) | (with_reducible refine Kd.C_alloc ?_ _) | (with_reducible refine Kd.C_drewN ?_ _) | (with_reducible refine Kd.C_drew ?_))); (case side2 => exact HC0_0.out); rintro e w18 ⟨v467, rfl, ho0, hb⟩; refine ⟨_, rfl, ?_⟩; have HO468 := Aside0.mk (Kd.R_lower (Kd.R_new' ho0 (Kd.R_lt (rx HO464))) (below_size (bw HB))); replace HO464 := Aside0.mk (Kd.R_elder' (rx HO464) (Kd.R_base ho0) hb); replace BK459 := bb BK459 hb; replace HB := bh HB hb; (try clear hb); (try clear hb2); (try clear hk); (try clear hi); (try clear ho0)))
  (try simp only [Act.put, List.setIfInBounds_toArray, List.set_cons_zero, List.set_cons_succ])
  go_cut [47] (fun v47 wc => ∃ (kq : Nat) (x47_10 : Bool), v47 = .bool x47_10 ∧ Aside0 (stickfullaw15_FirstSame.j0 kq x47_10 l0_0 l0_1 a0_2 a0_3 a0_4 a0_5 = some r) ∧ Aside0 (kq ≤ k) ∧ Aside0 (wc.heap[gb459]? = some (.cells #[(.slice A0_0 l0_0.length c0_0), (.slice A0_1 l0_1.length c0_1), .int .i64 a0_2, .int .i64 a0_3, .int .i64 a0_4, .int .i64 a0_5] 26 (0, 0))) ∧ Aside0 (Below w.heap.size w wc))
  case first =>
   have H := HC11.out
   clear HC11
   by_cases c19 : t465 = t469
   ·rw [if_pos c19] at H
    have c19b0 : (t465 == t469) = true := beq_iff_eq.mpr c19
    have c19b1 : (t465 != t469) = false := bne_eq_false_iff_eq.mpr c19
    clear c19
    (first | rw [c19b0] | (simp only [i64_w, i32_w]; rw [c19b0]) | skip)
    replace H := Option.bind_eq_some_iff.mp H
    obtain ⟨t470, A200, H⟩ := H
    replace H : (stickfullaw15_FirstSame.j0 k (!t470) l0_0 l0_1 a0_2 a0_3 a0_4 a0_5) = some r := H
    have A20 := Aside0.mk A200
    clear A200
    have H' := Aside0.mk H
    clear H
    obtain ⟨Ao21, co21, eo21⟩ := Kd.R_slice HO464.out
    subst eo21
    obtain ⟨Ao22, co22, eo22⟩ := Kd.R_slice HO468.out
    subst eo22
    go_wp2_with (first | (go_at_call 11; (with_reducible refine (stickfulref14_Same.calls k _ _ t462 _ _ t466 t470 _ ?side1 ?side2 ?side3 ?side4 A20.out).mono ?_); (case side1 => repeat (first | exact (Kd.R_reads' HO464.out).2.2 | (with_reducible refine Kd.C_alloc ?_ _) | (with_reducible refine Kd.C_drewN ?_ _) | (with_reducible refine Kd.C_drew ?_))); (case side2 => exact (Kd.R_reads' HO464.out).2.1); (case side3 => repeat (first | exact (Kd.R_reads' HO468.out).2.2 | (with_reducible refine Kd.C_alloc ?_ _) | (with_reducible refine Kd.C_drewN ?_ _) | (with_reducible refine Kd.C_drew ?_))); (case side4 => exact (Kd.R_reads' HO468.out).2.1); rintro e w' ⟨rfl, ⟨nd, rfl⟩⟩))
    go_meet
    case rel => exact ⟨_, (!t470), (by first | rfl | (simp; done) | (simp [*]; done)), H', ⟨by first | omega | exact Nat.le_refl _⟩, ⟨by (with_reducible repeat (first | refine blk_drewN ?_ _ | refine blk_drew ?_ | refine blk_alloc ?_ _)); exact BK459.out⟩, ⟨by repeat (first | (with_reducible first | exact HB.out | apply below_alloc | apply pw_below_drewN | apply below_drew1 | refine below_set ?_ GE459.out) | exact HB.out)⟩⟩
   ·rw [if_neg c19] at H
    have c19b0 : (t465 == t469) = false := beq_eq_false_iff_ne.mpr c19
    have c19b1 : (t465 != t469) = true := bne_iff_ne.mpr c19
    (first | rw [c19b0] | (simp only [i64_w, i32_w]; rw [c19b0]) | skip)
    have H' := Aside0.mk H
    clear H
    go_wp2
    go_meet
    case rel => exact ⟨_, (true), (by first | rfl | (simp; done) | (simp [*]; done)), H', ⟨by first | omega | exact Nat.le_refl _⟩, ⟨by (with_reducible repeat (first | refine blk_drewN ?_ _ | refine blk_drew ?_ | refine blk_alloc ?_ _)); exact BK459.out⟩, ⟨by repeat (first | (with_reducible first | exact HB.out | apply below_alloc | apply pw_below_drewN | apply below_drew1 | refine below_set ?_ GE459.out) | exact HB.out)⟩⟩
  case rest =>
   clear HC11
   try clear c1
   try clear p2
   try clear c3
   try clear c6
   try clear c7
   try clear c8
   try clear c9
   try clear c17
   try clear c19
   try clear c19b0
   try clear c19b1
   try clear hcz13_0
   try clear hcz13_1
   try clear hcz13_2
   try clear hcz13_3
   try clear hcz13_4
   try clear hcz13_5
   try clear hcz15_0
   try clear hcz15_1
   try clear hcz15_2
   try clear hcz15_3
   try clear hcz15_4
   try clear hcz15_5
   try clear hcz17_0
   try clear hcz17_1
   try clear hcz17_2
   try clear hcz17_3
   try clear hcz17_4
   try clear hcz17_5
   try clear hcz6_0
   try clear hcz6_1
   try clear hcz6_2
   try clear hcz6_3
   try clear hcz6_4
   try clear hcz6_5
   try clear hfz13_0
   try clear hfz13_1
   try clear hfz13_2
   try clear hfz13_3
   try clear hfz13_4
   try clear hfz13_5
   try clear hfz15_0
   try clear hfz15_1
   try clear hfz15_2
   try clear hfz15_3
   try clear hfz15_4
   try clear hfz15_5
   try clear hfz17_0
   try clear hfz17_1
   try clear hfz17_2
   try clear hfz17_3
   try clear hfz17_4
   try clear hfz17_5
   try clear hfz6_0
   try clear hfz6_1
   try clear hfz6_2
   try clear hfz6_3
   try clear hfz6_4
   try clear hfz6_5
   obtain ⟨kq, x47_10, rfl, HA, HJ10, BK459, HB⟩ := hcut
   cases kq with
   | zero => exact absurd HA.out (by simp [stickfullaw15_FirstSame.j0])
   | succ kj10 =>
    have H := HA.out
    clear HA
    simp only [stickfullaw15_FirstSame.j0] at H
    by_cases c23 : x47_10 = true
    ·subst c23
     have H1 : (some false) = some r := by rw [if_pos rfl] at H; exact H
     clear H
     have H := H1
     clear H1
     exact absurd ((Option.some.inj H).trans HR_.out) (by decide)
    ·replace c23 := Bool.eq_false_iff.mpr c23
     subst c23
     have H1 : ((first_Lines.f kj10 l0_0 l0_1 a0_2 a0_3 a0_4 a0_5).bind fun bt471 => (if bt471.2 = 0 then (stickfullaw15_FirstSame.j1 kj10 bt471.1 bt471.2 ((bt471.1.length : Int) == 0) l0_0 l0_1 a0_2 a0_3 a0_4 a0_5) else (stickfullaw15_FirstSame.j1 kj10 bt471.1 bt471.2 true l0_0 l0_1 a0_2 a0_3 a0_4 a0_5))) = some r := by rw [if_neg (show ¬ (false = true) by decide)] at H; exact H
     clear H
     have H := H1
     clear H1
     replace H := Option.bind_eq_some_iff.mp H
     obtain ⟨⟨t471, t474⟩, A240, H⟩ := H
     replace H : (if t474 = 0 then (stickfullaw15_FirstSame.j1 kj10 t471 t474 ((t471.length : Int) == 0) l0_0 l0_1 a0_2 a0_3 a0_4 a0_5) else (stickfullaw15_FirstSame.j1 kj10 t471 t474 true l0_0 l0_1 a0_2 a0_3 a0_4 a0_5)) = some r := H
     have A24 := Aside0.mk A240
     clear A240
     have HC25 := Aside0.mk H
     clear H
     obtain ⟨hcz26_0, hcz26_1, hcz26_2, hcz26_3, hcz26_4, hcz26_5⟩ := cz6 BK459
     obtain ⟨hfz26_0, hfz26_1, hfz26_2, hfz26_3, hfz26_4, hfz26_5⟩ := fz6 BK459
     go_upto_region 8 with (first | ((with_reducible refine gate_callee (f := 9) rfl ?_); refine goesB (some 57) rfl rfl Try.func9 #[.slice A0_0 l0_0.length c0_0, .slice A0_1 l0_1.length c0_1, .agg #[.int .i64 a0_2, .int .i64 a0_3], .agg #[.int .i64 a0_4, .int .i64 a0_5]] rfl ?_; (with_reducible refine (first_Lines.calls kj10 _ _ l0_0 _ _ l0_1 a0_2 a0_3 a0_4 a0_5 t471 t474 _ ?side1 ?side2 ?side3 ?side4 A24.out).mono ?_); (case side1 => repeat (first | exact (Kd.C_below HR0_0.out HB.out) | (with_reducible refine Kd.C_alloc ?_ _) | (with_reducible refine Kd.C_drewN ?_ _) | (with_reducible refine Kd.C_drew ?_))); (case side2 => exact HC0_0.out); (case side3 => repeat (first | exact (Kd.C_below HR0_1.out HB.out) | (with_reducible refine Kd.C_alloc ?_ _) | (with_reducible refine Kd.C_drewN ?_ _) | (with_reducible refine Kd.C_drew ?_))); (case side4 => exact HC0_1.out); rintro e w27 ⟨v472, rfl, ho0, hb⟩; refine ⟨_, rfl, ?_⟩; have HO473 := Aside0.mk (Kd.R_lower ho0 (below_size (bw HB))); replace BK459 := bb BK459 hb; replace HB := bh HB hb; (try clear hb); (try clear hb2); (try clear hk); (try clear hi); (try clear ho0)))
     (try simp only [Act.put, List.setIfInBounds_toArray, List.set_cons_zero, List.set_cons_succ])
     go_cut [66] (fun v66 wc => ∃ (kq : Nat) (x66_24 : Bool), v66 = .bool x66_24 ∧ Aside0 (stickfullaw15_FirstSame.j1 kq t471 t474 x66_24 l0_0 l0_1 a0_2 a0_3 a0_4 a0_5 = some r) ∧ Aside0 (kq ≤ kj10) ∧ Aside0 (Kd.R k43 43 wc w.heap.size (fun _ => True) v472 t471) ∧ Aside0 (wc.heap[gb459]? = some (.cells #[(.slice A0_0 l0_0.length c0_0), (.slice A0_1 l0_1.length c0_1), .int .i64 a0_2, .int .i64 a0_3, .int .i64 a0_4, .int .i64 a0_5] 26 (0, 0))) ∧ Aside0 (Below w.heap.size w wc))
     case first =>
      have H := HC25.out
      clear HC25
      by_cases c28 : t474 = 0
      ·rw [if_pos c28] at H
       have c28b0 : (t474 == 0) = true := beq_iff_eq.mpr c28
       have c28b1 : (t474 != 0) = false := bne_eq_false_iff_eq.mpr c28
       clear c28
       (first | rw [c28b0] | (simp only [i64_w, i32_w]; rw [c28b0]) | skip)
       have H' := Aside0.mk H
       clear H
       obtain ⟨Ao29, co29, eo29⟩ := Kd.R_slice HO473.out
       subst eo29
       go_wp2
       go_meet
       case rel => exact ⟨_, (((t471.length : Int) == 0)), (by first | rfl | (simp; done) | (simp [*]; done)), H', ⟨by have := HJ10.out; first | omega | exact Nat.le_refl _⟩, ⟨by (with_reducible repeat (first | apply Kd.R_alloc | apply Kd.R_drewN | apply Kd.R_drew)); exact HO473.out⟩, ⟨by (with_reducible repeat (first | refine blk_drewN ?_ _ | refine blk_drew ?_ | refine blk_alloc ?_ _)); exact BK459.out⟩, ⟨by repeat (first | (with_reducible first | exact HB.out | apply below_alloc | apply pw_below_drewN | apply below_drew1 | refine below_set ?_ GE459.out) | exact HB.out)⟩⟩
      ·rw [if_neg c28] at H
       have c28b0 : (t474 == 0) = false := beq_eq_false_iff_ne.mpr c28
       have c28b1 : (t474 != 0) = true := bne_iff_ne.mpr c28
       (first | rw [c28b0] | (simp only [i64_w, i32_w]; rw [c28b0]) | skip)
       have H' := Aside0.mk H
       clear H
       go_wp2
       go_meet
       case rel => exact ⟨_, (true), (by first | rfl | (simp; done) | (simp [*]; done)), H', ⟨by have := HJ10.out; first | omega | exact Nat.le_refl _⟩, ⟨by (with_reducible repeat (first | apply Kd.R_alloc | apply Kd.R_drewN | apply Kd.R_drew)); exact HO473.out⟩, ⟨by (with_reducible repeat (first | refine blk_drewN ?_ _ | refine blk_drew ?_ | refine blk_alloc ?_ _)); exact BK459.out⟩, ⟨by repeat (first | (with_reducible first | exact HB.out | apply below_alloc | apply pw_below_drewN | apply below_drew1 | refine below_set ?_ GE459.out) | exact HB.out)⟩⟩
     case rest =>
      clear HC25
      try clear c1
      try clear c2
      try clear p2
      try clear c3
      try clear c6
      try clear c7
      try clear c8
      try clear c9
      try clear c17
      try clear c19
      try clear c19b0
      try clear c19b1
      try clear c23
      try clear c28
      try clear c28b0
      try clear c28b1
      try clear hcz13_0
      try clear hcz13_1
      try clear hcz13_2
      try clear hcz13_3
      try clear hcz13_4
      try clear hcz13_5
      try clear hcz15_0
      try clear hcz15_1
      try clear hcz15_2
      try clear hcz15_3
      try clear hcz15_4
      try clear hcz15_5
      try clear hcz17_0
      try clear hcz17_1
      try clear hcz17_2
      try clear hcz17_3
      try clear hcz17_4
      try clear hcz17_5
      try clear hcz26_0
      try clear hcz26_1
      try clear hcz26_2
      try clear hcz26_3
      try clear hcz26_4
      try clear hcz26_5
      try clear hcz6_0
      try clear hcz6_1
      try clear hcz6_2
      try clear hcz6_3
      try clear hcz6_4
      try clear hcz6_5
      try clear hfz13_0
      try clear hfz13_1
      try clear hfz13_2
      try clear hfz13_3
      try clear hfz13_4
      try clear hfz13_5
      try clear hfz15_0
      try clear hfz15_1
      try clear hfz15_2
      try clear hfz15_3
      try clear hfz15_4
      try clear hfz15_5
      try clear hfz17_0
      try clear hfz17_1
      try clear hfz17_2
      try clear hfz17_3
      try clear hfz17_4
      try clear hfz17_5
      try clear hfz26_0
      try clear hfz26_1
      try clear hfz26_2
      try clear hfz26_3
      try clear hfz26_4
      try clear hfz26_5
      try clear hfz6_0
      try clear hfz6_1
      try clear hfz6_2
      try clear hfz6_3
      try clear hfz6_4
      try clear hfz6_5
      try clear p2
      obtain ⟨kq, x66_24, rfl, HA, HJ24, HO_7, BK459, HB⟩ := hcut
      cases kq with
      | zero => exact absurd HA.out (by simp [stickfullaw15_FirstSame.j1])
      | succ kj24 =>
       have H := HA.out
       clear HA
       simp only [stickfullaw15_FirstSame.j1] at H
       by_cases c30 : x66_24 = true
       ·subst c30
        have H1 : (if t474 = 0 then (some false) else ((stickfullaw15_head.f kj24).bind fun t475 => (some t475))) = some r := by rw [if_pos rfl] at H; exact H
        clear H
        have H := H1
        clear H1
        by_cases c31 : t474 = 0
        ·rw [if_pos c31] at H
         have c31b0 : (t474 == 0) = true := beq_iff_eq.mpr c31
         have c31b1 : (t474 != 0) = false := bne_eq_false_iff_eq.mpr c31
         clear c31
         exact absurd ((Option.some.inj H).trans HR_.out) (by decide)
        ·rw [if_neg c31] at H
         have c31b0 : (t474 == 0) = false := beq_eq_false_iff_ne.mpr c31
         have c31b1 : (t474 != 0) = true := bne_iff_ne.mpr c31
         replace H := Option.bind_eq_some_iff.mp H
         obtain ⟨t475, A320, H⟩ := H
         replace H : (some t475) = some r := H
         have A32 := Aside0.mk A320
         clear A320
         obtain rfl := Option.some.inj H
         go_wp2_with (first | (go_at_call 8; (with_reducible refine (stickfullaw15_head.calls kj24  t475 _ A32.out).mono ?_); rintro e w33 ⟨rfl, hb⟩; replace HO_7 := Aside0.mk (Kd.R_below (rx HO_7) hb); replace BK459 := bb BK459 hb; replace HB := bh HB hb; (try clear hb); (try clear hb2); (try clear hk); (try clear hi)))
         go_ret
         exact ⟨by first | rfl | (simp [errW_none, errW_some] <;> rfl) | (simp [*, errW_none, errW_some] <;> rfl), by repeat (first | (with_reducible first | exact HB.out | apply below_alloc | apply pw_below_drewN | apply below_drew1 | refine below_set ?_ GE459.out) | exact HB.out)⟩
       ·replace c30 := Bool.eq_false_iff.mpr c30
        subst c30
        have H1 : ((fill_One.f kj24 l0_0 0 a0_2 a0_3).bind fun bt476 => (if bt476.2.2.2 = 0 then (if 0 < (t471.length : Int) then (stickfullaw15_FirstSame.j2 kj24 t471 (!(((rd_T43 t471 0).f0) == bt476.1) || (!(((rd_T43 t471 0).f1) == bt476.2.1) || (!(((rd_T43 t471 0).f2) == bt476.2.2.1)))) l0_0 l0_1 a0_2 a0_3 a0_4 a0_5) else (none)) else (stickfullaw15_FirstSame.j2 kj24 t471 true l0_0 l0_1 a0_2 a0_3 a0_4 a0_5))) = some r := by rw [if_neg (show ¬ (false = true) by decide)] at H; exact H
        clear H
        have H := H1
        clear H1
        replace H := Option.bind_eq_some_iff.mp H
        obtain ⟨⟨t476, t477, t478, t479⟩, A340, H⟩ := H
        replace H : (if t479 = 0 then (if 0 < (t471.length : Int) then (stickfullaw15_FirstSame.j2 kj24 t471 (!(((rd_T43 t471 0).f0) == t476) || (!(((rd_T43 t471 0).f1) == t477) || (!(((rd_T43 t471 0).f2) == t478)))) l0_0 l0_1 a0_2 a0_3 a0_4 a0_5) else (none)) else (stickfullaw15_FirstSame.j2 kj24 t471 true l0_0 l0_1 a0_2 a0_3 a0_4 a0_5)) = some r := H
        have A34 := Aside0.mk A340
        clear A340
        have HC35 := Aside0.mk H
        clear H
        obtain ⟨hcz36_0, hcz36_1, hcz36_2, hcz36_3, hcz36_4, hcz36_5⟩ := cz6 BK459
        obtain ⟨hfz36_0, hfz36_1, hfz36_2, hfz36_3, hfz36_4, hfz36_5⟩ := fz6 BK459
        go_upto_region 11 with (first | ((with_reducible refine gate_callee (f := 18) rfl ?_); refine goesB (some 77) rfl rfl Try.func18 #[.slice A0_0 l0_0.length c0_0, .int .i64 0, .agg #[.int .i64 a0_2, .int .i64 a0_3]] rfl ?_; (with_reducible refine (fill_One.calls kj24 _ _ l0_0 0 a0_2 a0_3 t476 t477 t478 t479 _ ?side1 ?side2 A34.out).mono ?_); (case side1 => repeat (first | exact (Kd.C_below HR0_0.out HB.out) | (with_reducible refine Kd.C_alloc ?_ _) | (with_reducible refine Kd.C_drewN ?_ _) | (with_reducible refine Kd.C_drew ?_))); (case side2 => exact HC0_0.out); rintro e w37 ⟨rfl, hb⟩; refine ⟨_, rfl, ?_⟩; replace HO_7 := Aside0.mk (Kd.R_below (rx HO_7) hb); replace BK459 := bb BK459 hb; replace HB := bh HB hb; (try clear hb); (try clear hb2); (try clear hk); (try clear hi)) | ((with_reducible refine gate_dst (N := 9) rfl ?_); (try (refine gate_guard (by rfl) ?_; dsimp only)); refine box_event ?hg (N := 9) ?hd (cs := #[.int .i64 0, .int .i64 0, .bool false]) (t := 43) ?hr ?_; (case hd => rfl); (case hg => rfl); (case hr => first | (go_simp; done) | (go_simp; rfl)); intro gb480 hg w38 hbox hb; replace HO_7 := Aside0.mk (Kd.R_below (Kd.R_elderB (rx HO_7) gb480 (Nat.le_of_eq hg.symm)) hb); have BK480 := Aside0.mk (hbox); have GW480 := bge HB hg; have GE480 := bge HB hg; replace HB := bh HB hb; have NB459_480 := nbl BK459 hg; have NB480_459 := nbg BK459 hg; replace BK459 := bb BK459 hb; clear hb hbox hg; have hnb39 := NB480_459.out; have hnc39 := NB459_480.out; obtain ⟨hcz40_0, hcz40_1, hcz40_2⟩ := cz3 BK480; obtain ⟨hfz40_0, hfz40_1, hfz40_2⟩ := fz3 BK480))
        (try simp only [Act.put, List.setIfInBounds_toArray, List.set_cons_zero, List.set_cons_succ])
        go_cut [88] (fun v88 wc => ∃ (kq : Nat) (x88_34 : Bool), v88 = .bool x88_34 ∧ Aside0 (stickfullaw15_FirstSame.j2 kq t471 x88_34 l0_0 l0_1 a0_2 a0_3 a0_4 a0_5 = some r) ∧ Aside0 (kq ≤ kj24) ∧ Aside0 (Kd.R k43 43 wc w.heap.size (fun k_ => k_ ≠ gb480) v472 t471) ∧ Aside0 (wc.heap[gb459]? = some (.cells #[(.slice A0_0 l0_0.length c0_0), (.slice A0_1 l0_1.length c0_1), .int .i64 a0_2, .int .i64 a0_3, .int .i64 a0_4, .int .i64 a0_5] 26 (0, 0))) ∧ Aside0 (wc.heap[gb480]? = some (.cells #[.int .i64 t476, .int .i64 t477, .bool t478] 43 (0, 0))) ∧ Aside0 (Below w.heap.size w wc))
        case first =>
         have H := HC35.out
         clear HC35
         by_cases c41 : t479 = 0
         ·rw [if_pos c41] at H
          have c41b0 : (t479 == 0) = true := beq_iff_eq.mpr c41
          have c41b1 : (t479 != 0) = false := bne_eq_false_iff_eq.mpr c41
          clear c41
          (first | rw [c41b0] | (simp only [i64_w, i32_w]; rw [c41b0]) | skip)
          by_cases c42 : 0 < (t471.length : Int)
          ·rw [if_pos c42] at H
           have c42b0 : decide (0 < (t471.length : Int)) = true := decide_eq_true c42
           have c42b1 : decide (0 < t471.length) = true := decide_eq_true (by omega)
           clear c42
           have H' := Aside0.mk H
           clear H
           try go_wp2
           have n0_ : Aside0 (Kd.R k43 43 (((w38.setCell ⟨gb480, 0, none⟩ (.int .i64 t476)).setCell ⟨gb480, 1, none⟩ (.int .i64 t477)).setCell ⟨gb480, 2, none⟩ (.bool t478)) w.heap.size (fun k_ => k_ ≠ gb480) v472 t471) := ⟨by (with_reducible repeat (first | apply Kd.R_alloc | apply Kd.R_drewN | apply Kd.R_drew)); exact Kd.R_mono (Kd.R_far (p := ⟨gb480, 2, none⟩) (Kd.R_far (p := ⟨gb480, 1, none⟩) (Kd.R_far (p := ⟨gb480, 0, none⟩) (Kd.R_mono HO_7.out (fun k_ hk => (⟨hk, hk.2⟩ : _ ∧ k_ ≠ gb480))) (fun _ hk => hk.2) (.int .i64 t476)) (fun _ hk => hk.2) (.int .i64 t477)) (fun _ hk => hk.2) (.bool t478)) (fun _ hk => hk.1.2)⟩
           have n1_ : Aside0 ((((w38.setCell ⟨gb480, 0, none⟩ (.int .i64 t476)).setCell ⟨gb480, 1, none⟩ (.int .i64 t477)).setCell ⟨gb480, 2, none⟩ (.bool t478)).heap[gb459]? = some (.cells #[.slice A0_0 l0_0.length c0_0, .slice A0_1 l0_1.length c0_1, .int .i64 a0_2, .int .i64 a0_3, .int .i64 a0_4, .int .i64 a0_5] 26 (0, 0))) := ⟨by (with_reducible repeat (first | refine blk_drewN ?_ _ | refine blk_drew ?_ | refine blk_alloc ?_ _)); refine blk_far ?_ NB459_480.out _; (with_reducible repeat (first | refine blk_drewN ?_ _ | refine blk_drew ?_ | refine blk_alloc ?_ _)); refine blk_far ?_ NB459_480.out _; (with_reducible repeat (first | refine blk_drewN ?_ _ | refine blk_drew ?_ | refine blk_alloc ?_ _)); refine blk_far ?_ NB459_480.out _; (with_reducible repeat (first | refine blk_drewN ?_ _ | refine blk_drew ?_ | refine blk_alloc ?_ _)); exact BK459.out⟩
           have n2_ : Aside0 ((((w38.setCell ⟨gb480, 0, none⟩ (.int .i64 t476)).setCell ⟨gb480, 1, none⟩ (.int .i64 t477)).setCell ⟨gb480, 2, none⟩ (.bool t478)).heap[gb480]? = some (.cells #[.int .i64 t476, .int .i64 t477, .bool t478] 43 (0, 0))) := ⟨by (with_reducible repeat (first | refine blk_drewN ?_ _ | refine blk_drew ?_ | refine blk_alloc ?_ _)); refine blk_put (cs := #[.int .i64 t476, .int .i64 t477, .bool false]) ?_ 2 _ rfl; (with_reducible repeat (first | refine blk_drewN ?_ _ | refine blk_drew ?_ | refine blk_alloc ?_ _)); refine blk_put (cs := #[.int .i64 t476, .int .i64 0, .bool false]) ?_ 1 _ rfl; (with_reducible repeat (first | refine blk_drewN ?_ _ | refine blk_drew ?_ | refine blk_alloc ?_ _)); refine blk_put (cs := #[.int .i64 0, .int .i64 0, .bool false]) ?_ 0 _ rfl; (with_reducible repeat (first | refine blk_drewN ?_ _ | refine blk_drew ?_ | refine blk_alloc ?_ _)); exact BK480.out⟩
           have n3_ : Aside0 (Below w.heap.size w (((w38.setCell ⟨gb480, 0, none⟩ (.int .i64 t476)).setCell ⟨gb480, 1, none⟩ (.int .i64 t477)).setCell ⟨gb480, 2, none⟩ (.bool t478))) := ⟨by repeat (first | (with_reducible first | exact HB.out | apply below_alloc | apply pw_below_drewN | apply below_drew1 | refine below_set ?_ GE459.out | refine below_set ?_ GE480.out) | exact HB.out)⟩
           (try clear HO_7)
           (try clear BK459)
           (try clear BK480)
           (try clear HB)
           generalize (((w38.setCell ⟨gb480, 0, none⟩ (.int .i64 t476)).setCell ⟨gb480, 1, none⟩ (.int .i64 t477)).setCell ⟨gb480, 2, none⟩ (.bool t478)) = w43 at n0_ n1_ n2_ n3_ ⊢
           have HO_7 := n0_
           have BK459 := n1_
           have BK480 := n2_
           have HB := n3_
           clear n0_ n1_ n2_ n3_
           replace HO_7 := Aside0.mk (Kd.R_drew HO_7.out)
           replace BK459 := Aside0.mk (blk_drew BK459.out)
           replace BK480 := Aside0.mk (blk_drew BK480.out)
           replace HB := Aside0.mk (below_drew1 HB.out)
           obtain ⟨Ao45, co45, eo45⟩ := Kd.R_slice HO_7.out
           (first | subst eo45 | (injection eo45 with f1_ f2_ f3_; have f4_ := f1_.symm; have f5_ := f3_.symm; clear f1_ f2_ f3_; subst f4_; subst f5_))
           have p481 : 0 ≤ (0 : Int) := (by omega)
           have q481 : 0 < (t471.length : Int) := of_decide_eq_true (by first | (with_reducible assumption) | assumption)
           obtain ⟨ad481, e481, hx481_0, hx481_1, hx481_2⟩ := at_T43 (Kd.R_reads' HO_7.out).2.2 0 p481 q481
           cases e481
           have qi481 : (0 < t471.length) = True := eq_true (by omega)
           (try rw [show ((0 : Int)).toNat = 0 from rfl] at hx481_0)
           (try rw [show 0 * 3 = 0 from rfl] at hx481_0)
           (try rw [Addr.add_zero'] at hx481_0)
           (try rw [show ((0 : Int)).toNat = 0 from rfl] at hx481_1)
           (try rw [show 0 * 3 = 0 from rfl] at hx481_1)
           (try rw [Addr.add_zero'] at hx481_1)
           (try rw [show ((0 : Int)).toNat = 0 from rfl] at hx481_2)
           (try rw [show 0 * 3 = 0 from rfl] at hx481_2)
           (try rw [Addr.add_zero'] at hx481_2)
           replace p481 := eq_true p481
           replace q481 := eq_true q481
           refine start_ (n := 9) (S := fun w' => w'.cell? ⟨gb480, 0, none⟩ = some (.int .i64 t476) ∧ w'.cell? ⟨gb480, 1, none⟩ = some (.int .i64 t477) ∧ w'.cell? ⟨gb480, 2, none⟩ = some (.bool t478) ∧ w'.cell? ad481 = some (.int .i64 ((rd_T43 t471 0).f0)) ∧ w'.cell? ⟨ad481.block, ad481.off + 1, none⟩ = some (.int .i64 ((rd_T43 t471 0).f1)) ∧ w'.cell? ⟨ad481.block, ad481.off + 2, none⟩ = some (.bool ((rd_T43 t471 0).f2))) (ds := []) (stickfullaw15_FirstSame.bm 9 0) (by kernel_rfl) rfl rfl ⟨bc BK480 0, bc BK480 1, bc BK480 2, hx481_0, hx481_1, hx481_2⟩ (fun hHeld => ?_); refine with_tabW stickfullaw15_FirstSame.tab11 stickfullaw15_FirstSame.bits11 (fun HT_ HW_ => ?_)
           generalize w43.drew = w44 at HO_7 BK459 BK480 HB hx481_0 hx481_1 hx481_2 hHeld ⊢
           refine pure_ (i := 0) (N := some 80) (v := ?_) (a' := ?_) (stickfullaw15_FirstSame.bm 9 1) rfl rfl (any_of HT_.out (by kernel_rfl)) (fun _ _ _ h => h) (Or.inl ⟨by rfl, ?_⟩) ?_ ?_
           rotate_left; (focus intro w'; go_simp; with_reducible rfl); rotate_left; (focus simp only [Act.put, List.setIfInBounds_toArray, List.set_cons_zero, List.set_cons_succ, i64_w, i32_w]; rfl)
           refine pure_ (i := 1) (N := some 81) (v := ?_) (a' := ?_) (stickfullaw15_FirstSame.bm 9 3) rfl rfl (any_of HT_.out (by kernel_rfl)) (fun _ _ _ h => h) (Or.inl ⟨by rfl, ?_⟩) ?_ ?_
           rotate_left; (focus intro w'; go_simp; with_reducible rfl); rotate_left; (focus simp only [Act.put, List.setIfInBounds_toArray, List.set_cons_zero, List.set_cons_succ, i64_w, i32_w]; rfl)
           refine pure_ (i := 2) (N := some 82) (v := ?_) (a' := ?_) (stickfullaw15_FirstSame.bm 9 7) rfl rfl (any_of HT_.out (by kernel_rfl)) (fun _ _ _ h => h) (Or.inl ⟨by rfl, ?_⟩) ?_ ?_
           rotate_left; (focus intro w'; go_simp; with_reducible rfl); rotate_left; (focus simp only [Act.put, List.setIfInBounds_toArray, List.set_cons_zero, List.set_cons_succ, i64_w, i32_w]; rfl)
           refine pure_ (i := 3) (N := some 83) (v := ?_) (a' := ?_) (stickfullaw15_FirstSame.bm 9 15) rfl rfl (any_of HT_.out (by kernel_rfl)) (fun _ _ _ h => h) (Or.inl ⟨by rfl, ?_⟩) ?_ ?_
           rotate_left; (focus intro w'; go_simp; with_reducible rfl); rotate_left; (focus simp only [Act.put, List.setIfInBounds_toArray, List.set_cons_zero, List.set_cons_succ, i64_w, i32_w]; rfl)
           refine pure_ (i := 4) (N := some 84) (v := ?_) (a' := ?_) (stickfullaw15_FirstSame.bm 9 31) rfl rfl (any_of HT_.out (by kernel_rfl)) (fun _ _ _ h => h) (Or.inl ⟨by rfl, ?_⟩) ?_ ?_
           rotate_left; (focus intro w'; go_simp; with_reducible rfl); rotate_left; (focus simp only [Act.put, List.setIfInBounds_toArray, List.set_cons_zero, List.set_cons_succ, i64_w, i32_w]; rfl)
           refine take_ (i := 5) (N := some 85) (v := ?_) (a' := ?_) (stickfullaw15_FirstSame.bm 9 63) rfl rfl (take_ofW HT_.out HW_.out (by kernel_rfl)) (fun _ _ _ h => h) (Or.inl ⟨by rfl, ?_⟩) hHeld ?_ ?_
           rotate_left; (focus rintro w' ⟨s0, s1, s2, s3, s4, s5⟩; go_simp; with_reducible rfl); rotate_left; (focus simp only [Act.put, List.setIfInBounds_toArray, List.set_cons_zero, List.set_cons_succ, i64_w, i32_w]; rfl)
           refine take_ (i := 6) (N := some 86) (v := ?_) (a' := ?_) (stickfullaw15_FirstSame.bm 9 127) rfl rfl (take_ofW HT_.out HW_.out (by kernel_rfl)) (fun _ _ _ h => h) (Or.inl ⟨by rfl, ?_⟩) hHeld ?_ ?_
           rotate_left; (focus rintro w' ⟨s0, s1, s2, s3, s4, s5⟩; go_simp; with_reducible rfl); rotate_left; (focus simp only [Act.put, List.setIfInBounds_toArray, List.set_cons_zero, List.set_cons_succ, i64_w, i32_w]; rfl)
           refine pure_ (i := 7) (N := some 87) (v := ?_) (a' := ?_) (stickfullaw15_FirstSame.bm 9 255) rfl rfl (any_of HT_.out (by kernel_rfl)) (fun _ _ _ h => h) (Or.inl ⟨by rfl, ?_⟩) ?_ ?_
           rotate_left; (focus intro w'; go_simp; with_reducible rfl); rotate_left; (focus simp only [Act.put, List.setIfInBounds_toArray, List.set_cons_zero, List.set_cons_succ, i64_w, i32_w]; rfl)
           refine pure_ (i := 8) (N := some 88) (v := ?_) (a' := ?_) (stickfullaw15_FirstSame.bm 9 511) rfl rfl (any_of HT_.out (by kernel_rfl)) (fun _ _ _ h => h) (Or.inl ⟨by rfl, ?_⟩) ?_ ?_
           rotate_left; (focus intro w'; go_simp; with_reducible rfl); rotate_left; (focus simp only [Act.put, List.setIfInBounds_toArray, List.set_cons_zero, List.set_cons_succ, i64_w, i32_w]; rfl)
           refine done_ (done_of HT_.out (by kernel_rfl)) ?_
           try go_wp2
           go_meet
           case rel => exact ⟨_, ((!(((rd_T43 t471 0).f0) == t476) || (!(((rd_T43 t471 0).f1) == t477) || (!(((rd_T43 t471 0).f2) == t478))))), (by first | rfl | (simp; done) | (simp [*]; done)), H', ⟨by have := HJ10.out; have := HJ24.out; first | omega | exact Nat.le_refl _⟩, ⟨by (with_reducible repeat (first | apply Kd.R_alloc | apply Kd.R_drewN | apply Kd.R_drew)); exact HO_7.out⟩, ⟨by (with_reducible repeat (first | refine blk_drewN ?_ _ | refine blk_drew ?_ | refine blk_alloc ?_ _)); exact BK459.out⟩, ⟨by (with_reducible repeat (first | refine blk_drewN ?_ _ | refine blk_drew ?_ | refine blk_alloc ?_ _)); exact BK480.out⟩, ⟨by repeat (first | (with_reducible first | exact HB.out | apply below_alloc | apply pw_below_drewN | apply below_drew1 | refine below_set ?_ GE459.out | refine below_set ?_ GE480.out) | exact HB.out)⟩⟩
          ·rw [if_neg c42] at H
           exact absurd H (by simp)
         ·rw [if_neg c41] at H
          have c41b0 : (t479 == 0) = false := beq_eq_false_iff_ne.mpr c41
          have c41b1 : (t479 != 0) = true := bne_iff_ne.mpr c41
          (first | rw [c41b0] | (simp only [i64_w, i32_w]; rw [c41b0]) | skip)
          have H' := Aside0.mk H
          clear H
          try go_wp2
          have n0_ : Aside0 (Kd.R k43 43 (((w38.setCell ⟨gb480, 0, none⟩ (.int .i64 t476)).setCell ⟨gb480, 1, none⟩ (.int .i64 t477)).setCell ⟨gb480, 2, none⟩ (.bool t478)) w.heap.size (fun k_ => k_ ≠ gb480) v472 t471) := ⟨by (with_reducible repeat (first | apply Kd.R_alloc | apply Kd.R_drewN | apply Kd.R_drew)); exact Kd.R_mono (Kd.R_far (p := ⟨gb480, 2, none⟩) (Kd.R_far (p := ⟨gb480, 1, none⟩) (Kd.R_far (p := ⟨gb480, 0, none⟩) (Kd.R_mono HO_7.out (fun k_ hk => (⟨hk, hk.2⟩ : _ ∧ k_ ≠ gb480))) (fun _ hk => hk.2) (.int .i64 t476)) (fun _ hk => hk.2) (.int .i64 t477)) (fun _ hk => hk.2) (.bool t478)) (fun _ hk => hk.1.2)⟩
          have n1_ : Aside0 ((((w38.setCell ⟨gb480, 0, none⟩ (.int .i64 t476)).setCell ⟨gb480, 1, none⟩ (.int .i64 t477)).setCell ⟨gb480, 2, none⟩ (.bool t478)).heap[gb459]? = some (.cells #[.slice A0_0 l0_0.length c0_0, .slice A0_1 l0_1.length c0_1, .int .i64 a0_2, .int .i64 a0_3, .int .i64 a0_4, .int .i64 a0_5] 26 (0, 0))) := ⟨by (with_reducible repeat (first | refine blk_drewN ?_ _ | refine blk_drew ?_ | refine blk_alloc ?_ _)); refine blk_far ?_ NB459_480.out _; (with_reducible repeat (first | refine blk_drewN ?_ _ | refine blk_drew ?_ | refine blk_alloc ?_ _)); refine blk_far ?_ NB459_480.out _; (with_reducible repeat (first | refine blk_drewN ?_ _ | refine blk_drew ?_ | refine blk_alloc ?_ _)); refine blk_far ?_ NB459_480.out _; (with_reducible repeat (first | refine blk_drewN ?_ _ | refine blk_drew ?_ | refine blk_alloc ?_ _)); exact BK459.out⟩
          have n2_ : Aside0 ((((w38.setCell ⟨gb480, 0, none⟩ (.int .i64 t476)).setCell ⟨gb480, 1, none⟩ (.int .i64 t477)).setCell ⟨gb480, 2, none⟩ (.bool t478)).heap[gb480]? = some (.cells #[.int .i64 t476, .int .i64 t477, .bool t478] 43 (0, 0))) := ⟨by (with_reducible repeat (first | refine blk_drewN ?_ _ | refine blk_drew ?_ | refine blk_alloc ?_ _)); refine blk_put (cs := #[.int .i64 t476, .int .i64 t477, .bool false]) ?_ 2 _ rfl; (with_reducible repeat (first | refine blk_drewN ?_ _ | refine blk_drew ?_ | refine blk_alloc ?_ _)); refine blk_put (cs := #[.int .i64 t476, .int .i64 0, .bool false]) ?_ 1 _ rfl; (with_reducible repeat (first | refine blk_drewN ?_ _ | refine blk_drew ?_ | refine blk_alloc ?_ _)); refine blk_put (cs := #[.int .i64 0, .int .i64 0, .bool false]) ?_ 0 _ rfl; (with_reducible repeat (first | refine blk_drewN ?_ _ | refine blk_drew ?_ | refine blk_alloc ?_ _)); exact BK480.out⟩
          have n3_ : Aside0 (Below w.heap.size w (((w38.setCell ⟨gb480, 0, none⟩ (.int .i64 t476)).setCell ⟨gb480, 1, none⟩ (.int .i64 t477)).setCell ⟨gb480, 2, none⟩ (.bool t478))) := ⟨by repeat (first | (with_reducible first | exact HB.out | apply below_alloc | apply pw_below_drewN | apply below_drew1 | refine below_set ?_ GE459.out | refine below_set ?_ GE480.out) | exact HB.out)⟩
          (try clear HO_7)
          (try clear BK459)
          (try clear BK480)
          (try clear HB)
          generalize (((w38.setCell ⟨gb480, 0, none⟩ (.int .i64 t476)).setCell ⟨gb480, 1, none⟩ (.int .i64 t477)).setCell ⟨gb480, 2, none⟩ (.bool t478)) = w46 at n0_ n1_ n2_ n3_ ⊢
          have HO_7 := n0_
          have BK459 := n1_
          have BK480 := n2_
          have HB := n3_
          clear n0_ n1_ n2_ n3_
          replace HO_7 := Aside0.mk (Kd.R_drew HO_7.out)
          replace BK459 := Aside0.mk (blk_drew BK459.out)
          replace BK480 := Aside0.mk (blk_drew BK480.out)
          replace HB := Aside0.mk (below_drew1 HB.out)
          refine start_ (n := 9) (S := fun w' => True) (ds := []) (stickfullaw15_FirstSame.bm 9 0) (by kernel_rfl) rfl rfl trivial (fun hHeld => ?_); refine with_tabW stickfullaw15_FirstSame.tab11 stickfullaw15_FirstSame.bits11 (fun HT_ HW_ => ?_)
          generalize w46.drew = w47 at HO_7 BK459 BK480 HB hHeld ⊢
          refine pure_ (i := 0) (N := some 80) (v := ?_) (a' := ?_) (stickfullaw15_FirstSame.bm 9 1) rfl rfl (any_of HT_.out (by kernel_rfl)) (fun _ _ _ h => h) (Or.inl ⟨by rfl, ?_⟩) ?_ ?_
          rotate_left; (focus intro w'; go_simp; with_reducible rfl); rotate_left; (focus simp only [Act.put, List.setIfInBounds_toArray, List.set_cons_zero, List.set_cons_succ, i64_w, i32_w]; rfl)
          refine pure_ (i := 1) (N := some 81) (v := ?_) (a' := ?_) (stickfullaw15_FirstSame.bm 9 3) rfl rfl (any_of HT_.out (by kernel_rfl)) (fun _ _ _ h => h) (Or.inl ⟨by rfl, ?_⟩) ?_ ?_
          rotate_left; (focus intro w'; go_simp; with_reducible rfl); rotate_left; (focus simp only [Act.put, List.setIfInBounds_toArray, List.set_cons_zero, List.set_cons_succ, i64_w, i32_w]; rfl)
          refine pure_ (i := 2) (N := some 82) (v := ?_) (a' := ?_) (stickfullaw15_FirstSame.bm 9 7) rfl rfl (any_of HT_.out (by kernel_rfl)) (fun _ _ _ h => h) (Or.inl ⟨by rfl, ?_⟩) ?_ ?_
          rotate_left; (focus intro w'; go_simp; with_reducible rfl); rotate_left; (focus simp only [Act.put, List.setIfInBounds_toArray, List.set_cons_zero, List.set_cons_succ, i64_w, i32_w]; rfl)
          refine pure_ (i := 3) (N := some 83) (v := undef) (a' := ?_) (stickfullaw15_FirstSame.bm 9 15) rfl rfl (any_of HT_.out (by kernel_rfl)) (fun _ _ _ h => h) (Or.inr ⟨by rfl, rfl⟩) ?_ ?_
          rotate_left; (focus simp only [Act.put, List.setIfInBounds_toArray, List.set_cons_zero, List.set_cons_succ, i64_w, i32_w]; rfl)
          refine pure_ (i := 4) (N := some 84) (v := undef) (a' := ?_) (stickfullaw15_FirstSame.bm 9 31) rfl rfl (any_of HT_.out (by kernel_rfl)) (fun _ _ _ h => h) (Or.inr ⟨by rfl, rfl⟩) ?_ ?_
          rotate_left; (focus simp only [Act.put, List.setIfInBounds_toArray, List.set_cons_zero, List.set_cons_succ, i64_w, i32_w]; rfl)
          refine pure_ (i := 5) (N := some 85) (v := undef) (a' := ?_) (stickfullaw15_FirstSame.bm 9 63) rfl rfl (any_of HT_.out (by kernel_rfl)) (fun _ _ _ h => h) (Or.inr ⟨by rfl, rfl⟩) ?_ ?_
          rotate_left; (focus simp only [Act.put, List.setIfInBounds_toArray, List.set_cons_zero, List.set_cons_succ, i64_w, i32_w]; rfl)
          refine pure_ (i := 6) (N := some 86) (v := undef) (a' := ?_) (stickfullaw15_FirstSame.bm 9 127) rfl rfl (any_of HT_.out (by kernel_rfl)) (fun _ _ _ h => h) (Or.inr ⟨by rfl, rfl⟩) ?_ ?_
          rotate_left; (focus simp only [Act.put, List.setIfInBounds_toArray, List.set_cons_zero, List.set_cons_succ, i64_w, i32_w]; rfl)
          refine pure_ (i := 7) (N := some 87) (v := undef) (a' := ?_) (stickfullaw15_FirstSame.bm 9 255) rfl rfl (any_of HT_.out (by kernel_rfl)) (fun _ _ _ h => h) (Or.inr ⟨by rfl, rfl⟩) ?_ ?_
          rotate_left; (focus simp only [Act.put, List.setIfInBounds_toArray, List.set_cons_zero, List.set_cons_succ, i64_w, i32_w]; rfl)
          refine pure_ (i := 8) (N := some 88) (v := ?_) (a' := ?_) (stickfullaw15_FirstSame.bm 9 511) rfl rfl (any_of HT_.out (by kernel_rfl)) (fun _ _ _ h => h) (Or.inl ⟨by rfl, ?_⟩) ?_ ?_
          rotate_left; (focus intro w'; go_simp; with_reducible rfl); rotate_left; (focus simp only [Act.put, List.setIfInBounds_toArray, List.set_cons_zero, List.set_cons_succ, i64_w, i32_w]; rfl)
          refine done_ (done_of HT_.out (by kernel_rfl)) ?_
          try go_wp2
          go_meet
          case rel => exact ⟨_, (true), (by first | rfl | (simp; done) | (simp [*]; done)), H', ⟨by have := HJ10.out; have := HJ24.out; first | omega | exact Nat.le_refl _⟩, ⟨by (with_reducible repeat (first | apply Kd.R_alloc | apply Kd.R_drewN | apply Kd.R_drew)); exact HO_7.out⟩, ⟨by (with_reducible repeat (first | refine blk_drewN ?_ _ | refine blk_drew ?_ | refine blk_alloc ?_ _)); exact BK459.out⟩, ⟨by (with_reducible repeat (first | refine blk_drewN ?_ _ | refine blk_drew ?_ | refine blk_alloc ?_ _)); exact BK480.out⟩, ⟨by repeat (first | (with_reducible first | exact HB.out | apply below_alloc | apply pw_below_drewN | apply below_drew1 | refine below_set ?_ GE459.out | refine below_set ?_ GE480.out) | exact HB.out)⟩⟩
        case rest =>
         clear HC35
         try clear c1
         try clear c2
         try clear p2
         try clear c3
         try clear c4
         try clear p4
         try clear q4
         try clear hx4
         try clear qi4
         try clear c6
         try clear c7
         try clear c8
         try clear c9
         try clear c17
         try clear c18
         try clear c19
         try clear c19b0
         try clear c19b1
         try clear c23
         try clear c28
         try clear c28b0
         try clear c28b1
         try clear c30
         try clear c31
         try clear c31b0
         try clear c31b1
         try clear c39
         try clear c41
         try clear c41b0
         try clear c41b1
         try clear c42
         try clear c42b0
         try clear c42b1
         try clear hcz13_0
         try clear hcz13_1
         try clear hcz13_2
         try clear hcz13_3
         try clear hcz13_4
         try clear hcz13_5
         try clear hcz15_0
         try clear hcz15_1
         try clear hcz15_2
         try clear hcz15_3
         try clear hcz15_4
         try clear hcz15_5
         try clear hcz17_0
         try clear hcz17_1
         try clear hcz17_2
         try clear hcz17_3
         try clear hcz17_4
         try clear hcz17_5
         try clear hcz26_0
         try clear hcz26_1
         try clear hcz26_2
         try clear hcz26_3
         try clear hcz26_4
         try clear hcz26_5
         try clear hcz36_0
         try clear hcz36_1
         try clear hcz36_2
         try clear hcz36_3
         try clear hcz36_4
         try clear hcz36_5
         try clear hcz40_0
         try clear hcz40_1
         try clear hcz40_2
         try clear hcz6_0
         try clear hcz6_1
         try clear hcz6_2
         try clear hcz6_3
         try clear hcz6_4
         try clear hcz6_5
         try clear hfz13_0
         try clear hfz13_1
         try clear hfz13_2
         try clear hfz13_3
         try clear hfz13_4
         try clear hfz13_5
         try clear hfz15_0
         try clear hfz15_1
         try clear hfz15_2
         try clear hfz15_3
         try clear hfz15_4
         try clear hfz15_5
         try clear hfz17_0
         try clear hfz17_1
         try clear hfz17_2
         try clear hfz17_3
         try clear hfz17_4
         try clear hfz17_5
         try clear hfz26_0
         try clear hfz26_1
         try clear hfz26_2
         try clear hfz26_3
         try clear hfz26_4
         try clear hfz26_5
         try clear hfz36_0
         try clear hfz36_1
         try clear hfz36_2
         try clear hfz36_3
         try clear hfz36_4
         try clear hfz36_5
         try clear hfz40_0
         try clear hfz40_1
         try clear hfz40_2
         try clear hfz6_0
         try clear hfz6_1
         try clear hfz6_2
         try clear hfz6_3
         try clear hfz6_4
         try clear hfz6_5
         try clear hx481_0
         try clear hx481_1
         try clear hx481_2
         try clear p2
         try clear p481
         try clear q481
         obtain ⟨kq, x88_34, rfl, HA, HJ34, HO_7, BK459, BK480, HB⟩ := hcut
         cases kq with
         | zero => exact absurd HA.out (by simp [stickfullaw15_FirstSame.j2])
         | succ kj34 =>
          have H := HA.out
          clear HA
          simp only [stickfullaw15_FirstSame.j2] at H
          by_cases c48 : x88_34 = true
          ·subst c48
           have H1 : (some false) = some r := by rw [if_pos rfl] at H; exact H
           clear H
           have H := H1
           clear H1
           exact absurd ((Option.some.inj H).trans HR_.out) (by decide)
          ·replace c48 := Bool.eq_false_iff.mpr c48
           subst c48
           have H1 : (stickfullaw15_FirstSame.l0 kj34 t471 1 l0_0 l0_1 a0_2 a0_3 a0_4 a0_5) = some r := by rw [if_neg (show ¬ (false = true) by decide)] at H; exact H
           clear H
           have H := H1
           clear H1
           have H' := Aside0.mk H
           clear H
           go_wp2
           go_loopg [11] kj34 (fun kq v11 w' => ∃ (x11_4 : Int), v11 = .int .i64 x11_4 ∧ Aside0 (stickfullaw15_FirstSame.l0 kq t471 x11_4 l0_0 l0_1 a0_2 a0_3 a0_4 a0_5 = some r) ∧ Aside0 (kq ≤ kj34) ∧ Aside0 (Kd.R k43 43 w' w.heap.size (fun k_ => k_ ≠ gb480) v472 t471) ∧ Aside0 (w'.heap[gb459]? = some (.cells #[(.slice A0_0 l0_0.length c0_0), (.slice A0_1 l0_1.length c0_1), .int .i64 a0_2, .int .i64 a0_3, .int .i64 a0_4, .int .i64 a0_5] 26 (0, 0))) ∧ Aside0 (w'.heap[gb480]? = some (.cells #[.int .i64 t476, .int .i64 t477, .bool t478] 43 (0, 0))) ∧ Aside0 (Below w.heap.size w w'))
           case atStart => exact ⟨(1), (by first | rfl | (simp; done) | (simp [*]; done)), H', ⟨Nat.le_refl _⟩, ⟨by (with_reducible repeat (first | apply Kd.R_alloc | apply Kd.R_drewN | apply Kd.R_drew)); exact HO_7.out⟩, ⟨by (with_reducible repeat (first | refine blk_drewN ?_ _ | refine blk_drew ?_ | refine blk_alloc ?_ _)); exact BK459.out⟩, ⟨by (with_reducible repeat (first | refine blk_drewN ?_ _ | refine blk_drew ?_ | refine blk_alloc ?_ _)); exact BK480.out⟩, ⟨by repeat (first | (with_reducible first | exact HB.out | apply below_alloc | apply pw_below_drewN | apply below_drew1 | refine below_set ?_ GE459.out | refine below_set ?_ GE480.out) | exact HB.out)⟩⟩
           case round =>
            clear H'
            try clear c1
            try clear c2
            try clear p2
            try clear c3
            try clear c4
            try clear p4
            try clear q4
            try clear hx4
            try clear qi4
            try clear c6
            try clear c7
            try clear c8
            try clear c9
            try clear c17
            try clear c18
            try clear c19
            try clear c19b0
            try clear c19b1
            try clear c23
            try clear c28
            try clear c28b0
            try clear c28b1
            try clear c30
            try clear c31
            try clear c31b0
            try clear c31b1
            try clear c39
            try clear c41
            try clear c41b0
            try clear c41b1
            try clear c42
            try clear c42b0
            try clear c42b1
            try clear c48
            try clear p48
            try clear q48
            try clear hx48
            try clear qi48
            try clear hcz13_0
            try clear hcz13_1
            try clear hcz13_2
            try clear hcz13_3
            try clear hcz13_4
            try clear hcz13_5
            try clear hcz15_0
            try clear hcz15_1
            try clear hcz15_2
            try clear hcz15_3
            try clear hcz15_4
            try clear hcz15_5
            try clear hcz17_0
            try clear hcz17_1
            try clear hcz17_2
            try clear hcz17_3
            try clear hcz17_4
            try clear hcz17_5
            try clear hcz26_0
            try clear hcz26_1
            try clear hcz26_2
            try clear hcz26_3
            try clear hcz26_4
            try clear hcz26_5
            try clear hcz36_0
            try clear hcz36_1
            try clear hcz36_2
            try clear hcz36_3
            try clear hcz36_4
            try clear hcz36_5
            try clear hcz40_0
            try clear hcz40_1
            try clear hcz40_2
            try clear hcz6_0
            try clear hcz6_1
            try clear hcz6_2
            try clear hcz6_3
            try clear hcz6_4
            try clear hcz6_5
            try clear hfz13_0
            try clear hfz13_1
            try clear hfz13_2
            try clear hfz13_3
            try clear hfz13_4
            try clear hfz13_5
            try clear hfz15_0
            try clear hfz15_1
            try clear hfz15_2
            try clear hfz15_3
            try clear hfz15_4
            try clear hfz15_5
            try clear hfz17_0
            try clear hfz17_1
            try clear hfz17_2
            try clear hfz17_3
            try clear hfz17_4
            try clear hfz17_5
            try clear hfz26_0
            try clear hfz26_1
            try clear hfz26_2
            try clear hfz26_3
            try clear hfz26_4
            try clear hfz26_5
            try clear hfz36_0
            try clear hfz36_1
            try clear hfz36_2
            try clear hfz36_3
            try clear hfz36_4
            try clear hfz36_5
            try clear hfz40_0
            try clear hfz40_1
            try clear hfz40_2
            try clear hfz6_0
            try clear hfz6_1
            try clear hfz6_2
            try clear hfz6_3
            try clear hfz6_4
            try clear hfz6_5
            try clear hx481_0
            try clear hx481_1
            try clear hx481_2
            try clear p2
            try clear p4
            try clear p481
            try clear q4
            try clear q481
            obtain ⟨x11_4, rfl, HA, HK4, HO_7, BK459, BK480, HB⟩ := hrel
            cases gk with
            | zero => exact absurd HA.out (by simp [stickfullaw15_FirstSame.l0])
            | succ k4 =>
             have H := HA.out
             clear HA
             simp only [stickfullaw15_FirstSame.l0] at H
             by_cases c49 : x11_4 < (t471.length : Int)
             ·rw [if_pos c49] at H
              have c49b0 : decide (x11_4 < (t471.length : Int)) = true := decide_eq_true c49
              clear c49
              obtain ⟨ji50, hji50⟩ : ∃ j_ : Int, (wrap64 (x11_4 - 1)) = j_ := ⟨_, rfl⟩
              replace H : (if 0 ≤ (ji50) then (if (ji50) < (t471.length : Int) then ((fill_One.f k4 l0_1 ((rd_T43 t471 (ji50)).f1) a0_4 a0_5).bind fun bt483 => (if bt483.2.2.2 = 0 then (if 0 ≤ x11_4 then (if (!(bt483.1 == ((rd_T43 t471 x11_4).f0)) || (!(bt483.2.1 == ((rd_T43 t471 x11_4).f1)) || (!(bt483.2.2.1 == ((rd_T43 t471 x11_4).f2))))) = true then (some false) else (stickfullaw15_FirstSame.l0 k4 t471 (wrap64 (x11_4 + 1)) l0_0 l0_1 a0_2 a0_3 a0_4 a0_5)) else (none)) else (some false))) else (none)) else (none)) = some r := by first | (rw [hji50] at H; exact H) | (simp only [hji50] at H ⊢; exact H)
              have hji50w : (IntKind.i64.wrap (x11_4 - 1)) = ji50 := (i64_w _).trans hji50
              by_cases c51 : 0 ≤ (ji50)
              ·rw [if_pos c51] at H
               have c51b0 : decide (0 ≤ (ji50)) = true := decide_eq_true c51
               clear c51
               by_cases c52 : (ji50) < (t471.length : Int)
               ·rw [if_pos c52] at H
                have c52b0 : decide ((ji50) < (t471.length : Int)) = true := decide_eq_true c52
                clear c52
                replace H := Option.bind_eq_some_iff.mp H
                obtain ⟨⟨t483, t484, t485, t486⟩, A530, H⟩ := H
                replace H : (if t486 = 0 then (if 0 ≤ x11_4 then (if (!(t483 == ((rd_T43 t471 x11_4).f0)) || (!(t484 == ((rd_T43 t471 x11_4).f1)) || (!(t485 == ((rd_T43 t471 x11_4).f2))))) = true then (some false) else (stickfullaw15_FirstSame.l0 k4 t471 (wrap64 (x11_4 + 1)) l0_0 l0_1 a0_2 a0_3 a0_4 a0_5)) else (none)) else (some false)) = some r := H
                have A53 := Aside0.mk A530
                clear A530
                by_cases c54 : t486 = 0
                ·rw [if_pos c54] at H
                 have c54b0 : (t486 == 0) = true := beq_iff_eq.mpr c54
                 have c54b1 : (t486 != 0) = false := bne_eq_false_iff_eq.mpr c54
                 clear c54
                 by_cases c55 : 0 ≤ x11_4
                 ·rw [if_pos c55] at H
                  have c55b0 : decide (0 ≤ x11_4) = true := decide_eq_true c55
                  clear c55
                  by_cases c56 : (!(t483 == ((rd_T43 t471 x11_4).f0)) || (!(t484 == ((rd_T43 t471 x11_4).f1)) || (!(t485 == ((rd_T43 t471 x11_4).f2))))) = true
                  ·rw [if_pos c56] at H
                   have c56b0 : (!(t483 == ((rd_T43 t471 x11_4).f0)) || (!(t484 == ((rd_T43 t471 x11_4).f1)) || (!(t485 == ((rd_T43 t471 x11_4).f2))))) = true := c56
                   clear c56
                   exact absurd ((Option.some.inj H).trans HR_.out) (by decide)
                  ·rw [if_neg c56] at H
                   have c56b0 : (!(t483 == ((rd_T43 t471 x11_4).f0)) || (!(t484 == ((rd_T43 t471 x11_4).f1)) || (!(t485 == ((rd_T43 t471 x11_4).f2))))) = false := by simpa using c56
                   clear c56
                   have H' := Aside0.mk H
                   clear H
                   obtain ⟨Ao57, co57, eo57⟩ := Kd.R_slice HO_7.out
                   subst eo57
                   try go_wp2
                   replace HO_7 := Aside0.mk (Kd.R_drew HO_7.out)
                   replace BK459 := Aside0.mk (blk_drew BK459.out)
                   replace BK480 := Aside0.mk (blk_drew BK480.out)
                   replace HB := Aside0.mk (below_drew1 HB.out)
                   have p482 : 0 ≤ ((ji50) : Int) := of_decide_eq_true (by first | (with_reducible assumption) | assumption)
                   have q482 : (ji50) < (t471.length : Int) := of_decide_eq_true (by first | (with_reducible assumption) | assumption)
                   obtain ⟨ad482, e482, hx482_0, hx482_1, hx482_2⟩ := at_T43 (Kd.R_reads' HO_7.out).2.2 (ji50) p482 q482
                   cases e482
                   replace p482 := eq_true p482
                   replace q482 := eq_true q482
                   refine start_ (n := 17) (S := fun w' => w'.cell? ⟨gb459, 0, none⟩ = some (.slice A0_0 l0_0.length c0_0) ∧ w'.cell? ⟨gb459, 1, none⟩ = some (.slice A0_1 l0_1.length c0_1) ∧ w'.cell? ⟨gb459, 2, none⟩ = some (.int .i64 a0_2) ∧ w'.cell? ⟨gb459, 3, none⟩ = some (.int .i64 a0_3) ∧ w'.cell? ⟨gb459, 4, none⟩ = some (.int .i64 a0_4) ∧ w'.cell? ⟨gb459, 5, none⟩ = some (.int .i64 a0_5) ∧ w'.cell? (ad482.add (((ji50)).toNat * 3)) = some (.int .i64 ((rd_T43 t471 (ji50)).f0)) ∧ w'.cell? ⟨(ad482.add (((ji50)).toNat * 3)).block, (ad482.add (((ji50)).toNat * 3)).off + 1, none⟩ = some (.int .i64 ((rd_T43 t471 (ji50)).f1)) ∧ w'.cell? ⟨(ad482.add (((ji50)).toNat * 3)).block, (ad482.add (((ji50)).toNat * 3)).off + 2, none⟩ = some (.bool ((rd_T43 t471 (ji50)).f2))) (ds := []) (stickfullaw15_FirstSame.bm 17 0) (by kernel_rfl) rfl rfl ⟨bc BK459 0, bc BK459 1, bc BK459 2, bc BK459 3, bc BK459 4, bc BK459 5, hx482_0, hx482_1, hx482_2⟩ (fun hHeld => ?_); refine with_tabW stickfullaw15_FirstSame.tab16 stickfullaw15_FirstSame.bits16 (fun HT_ HW_ => ?_)
                   generalize wr.drew = w58 at HO_7 BK459 BK480 HB hx482_0 hx482_1 hx482_2 hHeld ⊢
                   refine pure_ (i := 0) (N := some 96) (v := ?_) (a' := ?_) (stickfullaw15_FirstSame.bm 17 1) rfl rfl (any_of HT_.out (by kernel_rfl)) (fun _ _ _ h => h) (Or.inl ⟨by rfl, ?_⟩) ?_ ?_
                   rotate_left; (focus intro w'; go_simp; with_reducible rfl); rotate_left; (focus simp only [Act.put, List.setIfInBounds_toArray, List.set_cons_zero, List.set_cons_succ, i64_w, i32_w]; rfl)
                   refine pure_ (i := 2) (N := some 98) (v := ?_) (a' := ?_) (stickfullaw15_FirstSame.bm 17 5) rfl rfl (any_of HT_.out (by kernel_rfl)) (fun _ _ _ h => h) (Or.inl ⟨by rfl, ?_⟩) ?_ ?_
                   rotate_left; (focus intro w'; go_simp; with_reducible rfl); rotate_left; (focus simp only [Act.put, List.setIfInBounds_toArray, List.set_cons_zero, List.set_cons_succ, i64_w, i32_w]; rfl)
                   refine pure_ (i := 3) (N := some 99) (v := ?_) (a' := ?_) (stickfullaw15_FirstSame.bm 17 13) rfl rfl (any_of HT_.out (by kernel_rfl)) (fun _ _ _ h => h) (Or.inl ⟨by rfl, ?_⟩) ?_ ?_
                   rotate_left; (focus intro w'; go_simp; with_reducible rfl); rotate_left; (focus simp only [Act.put, List.setIfInBounds_toArray, List.set_cons_zero, List.set_cons_succ, i64_w, i32_w]; rfl)
                   refine pure_ (i := 4) (N := some 100) (v := ?_) (a' := ?_) (stickfullaw15_FirstSame.bm 17 29) rfl rfl (any_of HT_.out (by kernel_rfl)) (fun _ _ _ h => h) (Or.inl ⟨by rfl, ?_⟩) ?_ ?_
                   rotate_left; (focus intro w'; go_simp; with_reducible rfl); rotate_left; (focus simp only [Act.put, List.setIfInBounds_toArray, List.set_cons_zero, List.set_cons_succ, i64_w, i32_w]; rfl)
                   refine pure_ (i := 5) (N := some 101) (v := ?_) (a' := ?_) (stickfullaw15_FirstSame.bm 17 61) rfl rfl (any_of HT_.out (by kernel_rfl)) (fun _ _ _ h => h) (Or.inl ⟨by rfl, ?_⟩) ?_ ?_
                   rotate_left; (focus intro w'; go_simp; with_reducible rfl); rotate_left; (focus simp only [Act.put, List.setIfInBounds_toArray, List.set_cons_zero, List.set_cons_succ, i64_w, i32_w]; rfl)
                   refine pure_ (i := 6) (N := some 102) (v := ?_) (a' := ?_) (stickfullaw15_FirstSame.bm 17 125) rfl rfl (any_of HT_.out (by kernel_rfl)) (fun _ _ _ h => h) (Or.inl ⟨by rfl, ?_⟩) ?_ ?_
                   rotate_left; (focus intro w'; go_simp; with_reducible rfl); rotate_left; (focus simp only [Act.put, List.setIfInBounds_toArray, List.set_cons_zero, List.set_cons_succ, i64_w, i32_w]; rfl)
                   refine pure_ (i := 8) (N := some 104) (v := ?_) (a' := ?_) (stickfullaw15_FirstSame.bm 17 381) rfl rfl (any_of HT_.out (by kernel_rfl)) (fun _ _ _ h => h) (Or.inl ⟨by rfl, ?_⟩) ?_ ?_
                   rotate_left; (focus intro w'; go_simp; with_reducible rfl); rotate_left; (focus simp only [Act.put, List.setIfInBounds_toArray, List.set_cons_zero, List.set_cons_succ, i64_w, i32_w]; rfl)
                   refine take_ (i := 1) (N := some 97) (v := ?_) (a' := ?_) (stickfullaw15_FirstSame.bm 17 383) rfl rfl (take_ofW HT_.out HW_.out (by kernel_rfl)) (fun _ _ _ h => h) (Or.inl ⟨by rfl, ?_⟩) hHeld ?_ ?_
                   rotate_left; (focus rintro w' ⟨s0, s1, s2, s3, s4, s5, s6, s7, s8⟩; go_simp; with_reducible rfl); rotate_left; (focus simp only [Act.put, List.setIfInBounds_toArray, List.set_cons_zero, List.set_cons_succ, i64_w, i32_w]; rfl)
                   refine take_ (i := 7) (N := some 103) (v := ?_) (a' := ?_) (stickfullaw15_FirstSame.bm 17 511) rfl rfl (take_ofW HT_.out HW_.out (by kernel_rfl)) (fun _ _ _ h => h) (Or.inl ⟨by rfl, ?_⟩) hHeld ?_ ?_
                   rotate_left; (focus rintro w' ⟨s0, s1, s2, s3, s4, s5, s6, s7, s8⟩; go_simp; with_reducible rfl); rotate_left; (focus simp only [Act.put, List.setIfInBounds_toArray, List.set_cons_zero, List.set_cons_succ, i64_w, i32_w]; rfl)
                   refine take_ (i := 9) (N := some 105) (v := ?_) (a' := ?_) (stickfullaw15_FirstSame.bm 17 1023) rfl rfl (take_ofW HT_.out HW_.out (by kernel_rfl)) (fun _ _ _ h => h) (Or.inl ⟨by rfl, ?_⟩) hHeld ?_ ?_
                   rotate_left; (focus rintro w' ⟨s0, s1, s2, s3, s4, s5, s6, s7, s8⟩; go_simp; with_reducible rfl); rotate_left; (focus simp only [Act.put, List.setIfInBounds_toArray, List.set_cons_zero, List.set_cons_succ, i64_w, i32_w]; rfl)
                   refine join_ (σ := Nat) 2 (stickfullaw15_FirstSame.bm 17 32767) (fun s_ => [(106, .tuple #[.agg #[.int .i64 t483, .int .i64 t484, .bool t485], .int .i64 t486]), (12, .pointer (some ⟨s_, 0, none⟩)), (95, .tuple #[.agg #[.int .i64 t483, .int .i64 t484, .bool t485], .int .i64 t486]), (107, .agg #[.int .i64 t483, .int .i64 t484, .bool t485]), (108, .int .i64 t486)]) (fun s_ w' => (w'.cell? ⟨gb459, 0, none⟩ = some (.slice A0_0 l0_0.length c0_0) ∧ w'.cell? ⟨gb459, 1, none⟩ = some (.slice A0_1 l0_1.length c0_1) ∧ w'.cell? ⟨gb459, 2, none⟩ = some (.int .i64 a0_2) ∧ w'.cell? ⟨gb459, 3, none⟩ = some (.int .i64 a0_3) ∧ w'.cell? ⟨gb459, 4, none⟩ = some (.int .i64 a0_4) ∧ w'.cell? ⟨gb459, 5, none⟩ = some (.int .i64 a0_5) ∧ w'.cell? (ad482.add (((ji50)).toNat * 3)) = some (.int .i64 ((rd_T43 t471 (ji50)).f0)) ∧ w'.cell? ⟨(ad482.add (((ji50)).toNat * 3)).block, (ad482.add (((ji50)).toNat * 3)).off + 1, none⟩ = some (.int .i64 ((rd_T43 t471 (ji50)).f1)) ∧ w'.cell? ⟨(ad482.add (((ji50)).toNat * 3)).block, (ad482.add (((ji50)).toNat * 3)).off + 2, none⟩ = some (.bool ((rd_T43 t471 (ji50)).f2))) ∧ (Kd.R k43 43 w' w.heap.size (fun k_ => k_ ≠ gb480 ∧ k_ ≠ s_) (.slice (some ad482) t471.length co57) t471) ∧ (w'.heap[gb459]? = some (.cells #[.slice A0_0 l0_0.length c0_0, .slice A0_1 l0_1.length c0_1, .int .i64 a0_2, .int .i64 a0_3, .int .i64 a0_4, .int .i64 a0_5] 26 (0, 0))) ∧ (w'.heap[gb480]? = some (.cells #[.int .i64 t476, .int .i64 t477, .bool t478] 43 (0, 0))) ∧ (w'.heap[s_]? = some (.cells #[.int .i64 0, .int .i64 0, .bool false] 43 (0, 0))) ∧ (w.heap.size ≤ s_) ∧ (w.heap.size ≤ s_) ∧ (gb459 ≠ s_) ∧ (s_ ≠ gb459) ∧ (gb480 ≠ s_) ∧ (s_ ≠ gb480) ∧ (Below w.heap.size w w')) ?_ ?_
                   rotate_left
                   ·intro hCont
                    refine two_ (i := 10) (j := 14) (Ni := some 106) (Nj := some 12) (stickfullaw15_FirstSame.bm 17 2047) (stickfullaw15_FirstSame.bm 17 17407) rfl rfl rfl rfl (two_of HT_.out (by kernel_rfl)) (by decide) (by decide) (fun K hK => ?_) (fun K hK => ?_)
                    ·skip
                     refine goes_ Try.func18 (by kernel_rfl) rfl #[.slice A0_1 l0_1.length c0_1, .int .i64 ((rd_T43 t471 (ji50)).f1), .agg #[.int .i64 a0_4, .int .i64 a0_5]] (by rfl) rfl rfl (by (try simp only [List.map_toArray, List.map_cons, List.map_nil]); first | done | (simp only [hji50]; rfl) | rfl | (simp only [List.length_drop, List.length_take]; rfl)) ?_
                     with_reducible refine (fill_One.calls k4 _ _ l0_1 ((rd_T43 t471 (ji50)).f1) a0_4 a0_5 t483 t484 t485 t486 _ ?side1 ?side2 A53.out).mono ?_
                     (case side1 => repeat (first | exact (Kd.C_below HR0_1.out HB.out) | (with_reducible refine Kd.C_alloc ?_ _) | (with_reducible refine Kd.C_drewN ?_ _) | (with_reducible refine Kd.C_drew ?_)))
                     (case side2 => exact HC0_1.out)
                     rintro e w59 ⟨rfl, hb⟩
                     have HS6_ := (hb.cell (World.block_lt_of_cell? _ _ (hHeld.2.2.2.2.2.2.1))).trans (hHeld.2.2.2.2.2.2.1)
                     have HS7_ := (hb.cell (World.block_lt_of_cell? _ _ (hHeld.2.2.2.2.2.2.2.1))).trans (hHeld.2.2.2.2.2.2.2.1)
                     have HS8_ := (hb.cell (World.block_lt_of_cell? _ _ (hHeld.2.2.2.2.2.2.2.2))).trans (hHeld.2.2.2.2.2.2.2.2)
                     refine ⟨_, rfl, ?_⟩
                     replace HO_7 := Aside0.mk (Kd.R_below (rx HO_7) hb)
                     replace BK459 := bb BK459 hb
                     replace BK480 := bb BK480 hb
                     replace HB := bh HB hb
                     (try clear hb)
                     (try clear hb2)
                     (try clear hk)
                     (try clear hi)
                     refine hK.out _ _ ⟨bc BK459 0, bc BK459 1, bc BK459 2, bc BK459 3, bc BK459 4, bc BK459 5, HS6_, HS7_, HS8_⟩ (fun hHeld => ?_)
                     clear hK K
                     refine norm_ (a' := ?_) ?_ ?_
                     rotate_left; (focus show Act.put _ (some 106) _ = _; simp only [Act.put, List.setIfInBounds_toArray, List.set_cons_zero, List.set_cons_succ, i64_w, i32_w]; rfl)
                     refine pure_ (i := 11) (N := some 95) (v := ?_) (a' := ?_) (stickfullaw15_FirstSame.bm 17 4095) rfl rfl (any_of HT_.out (by kernel_rfl)) (fun _ _ _ h => h) (Or.inl ⟨by rfl, ?_⟩) ?_ ?_
                     rotate_left; (focus intro w'; go_simp; with_reducible rfl); rotate_left; (focus simp only [Act.put, List.setIfInBounds_toArray, List.set_cons_zero, List.set_cons_succ, i64_w, i32_w]; rfl)
                     refine pure_ (i := 12) (N := some 107) (v := ?_) (a' := ?_) (stickfullaw15_FirstSame.bm 17 8191) rfl rfl (any_of HT_.out (by kernel_rfl)) (fun _ _ _ h => h) (Or.inl ⟨by rfl, ?_⟩) ?_ ?_
                     rotate_left; (focus intro w'; go_simp; with_reducible rfl); rotate_left; (focus simp only [Act.put, List.setIfInBounds_toArray, List.set_cons_zero, List.set_cons_succ, i64_w, i32_w]; rfl)
                     refine pure_ (i := 13) (N := some 108) (v := ?_) (a' := ?_) (stickfullaw15_FirstSame.bm 17 16383) rfl rfl (any_of HT_.out (by kernel_rfl)) (fun _ _ _ h => h) (Or.inl ⟨by rfl, ?_⟩) ?_ ?_
                     rotate_left; (focus intro w'; go_simp; with_reducible rfl); rotate_left; (focus simp only [Act.put, List.setIfInBounds_toArray, List.set_cons_zero, List.set_cons_succ, i64_w, i32_w]; rfl)
                     refine one_ (i := 14) (N := some 12) (stickfullaw15_FirstSame.bm 17 32767) rfl rfl (one_of HT_.out (by kernel_rfl)) (by decide) (fun K hK => ?_)
                     refine box_step ?hg (N := 12) ?hd (cs := #[.int .i64 0, .int .i64 0, .bool false]) (t := 43) ?hr ?_; (case hd => rfl); (case hg => rfl); (case hr => first | (go_simp; done) | (go_simp; rfl))
                     intro gb487 hg w60 hbox hb
                     have HS6_ := (hb.cell (World.block_lt_of_cell? _ _ (hHeld.2.2.2.2.2.2.1))).trans (hHeld.2.2.2.2.2.2.1)
                     have HS7_ := (hb.cell (World.block_lt_of_cell? _ _ (hHeld.2.2.2.2.2.2.2.1))).trans (hHeld.2.2.2.2.2.2.2.1)
                     have HS8_ := (hb.cell (World.block_lt_of_cell? _ _ (hHeld.2.2.2.2.2.2.2.2))).trans (hHeld.2.2.2.2.2.2.2.2)
                     replace HO_7 := Aside0.mk (Kd.R_below (Kd.R_elderB (rx HO_7) gb487 (Nat.le_of_eq hg.symm)) hb)
                     have BK487 := Aside0.mk (hbox)
                     have GW487 := bge HB hg
                     have GE487 := bge HB hg
                     replace HB := bh HB hb
                     have NB459_487 := nbl BK459 hg
                     have NB487_459 := nbg BK459 hg
                     replace BK459 := bb BK459 hb
                     have NB480_487 := nbl BK480 hg
                     have NB487_480 := nbg BK480 hg
                     replace BK480 := bb BK480 hb
                     clear hb hbox hg
                     refine hK.out _ _ ⟨bc BK459 0, bc BK459 1, bc BK459 2, bc BK459 3, bc BK459 4, bc BK459 5, HS6_, HS7_, HS8_⟩ (fun hHeld => ?_)
                     clear hK K
                     refine norm_ (a' := ?_) ?_ ?_
                     rotate_left; (focus show Act.put _ (some 12) _ = _; simp only [Act.put, List.setIfInBounds_toArray, List.set_cons_zero, List.set_cons_succ, i64_w, i32_w]; rfl)
                     exact norm_ (by simp only [putAll, Act.put, List.setIfInBounds_toArray, List.set_cons_zero, List.set_cons_succ]) (hCont (gb487) _ ⟨hHeld, (rx HO_7), (by (with_reducible repeat (first | refine blk_drewN ?_ _ | refine blk_drew ?_ | refine blk_alloc ?_ _)); exact BK459.out), (by (with_reducible repeat (first | refine blk_drewN ?_ _ | refine blk_drew ?_ | refine blk_alloc ?_ _)); exact BK480.out), (by (with_reducible repeat (first | refine blk_drewN ?_ _ | refine blk_drew ?_ | refine blk_alloc ?_ _)); exact BK487.out), GW487.out, GE487.out, NB459_487.out, NB487_459.out, NB480_487.out, NB487_480.out, (bw HB)⟩)
                    ·skip
                     refine box_step ?hg (N := 12) ?hd (cs := #[.int .i64 0, .int .i64 0, .bool false]) (t := 43) ?hr ?_; (case hd => rfl); (case hg => rfl); (case hr => first | (go_simp; done) | (go_simp; rfl))
                     intro gb487 hg w59 hbox hb
                     have HS6_ := (hb.cell (World.block_lt_of_cell? _ _ (hHeld.2.2.2.2.2.2.1))).trans (hHeld.2.2.2.2.2.2.1)
                     have HS7_ := (hb.cell (World.block_lt_of_cell? _ _ (hHeld.2.2.2.2.2.2.2.1))).trans (hHeld.2.2.2.2.2.2.2.1)
                     have HS8_ := (hb.cell (World.block_lt_of_cell? _ _ (hHeld.2.2.2.2.2.2.2.2))).trans (hHeld.2.2.2.2.2.2.2.2)
                     replace HO_7 := Aside0.mk (Kd.R_below (Kd.R_elderB (rx HO_7) gb487 (Nat.le_of_eq hg.symm)) hb)
                     have BK487 := Aside0.mk (hbox)
                     have GW487 := bge HB hg
                     have GE487 := bge HB hg
                     replace HB := bh HB hb
                     have NB459_487 := nbl BK459 hg
                     have NB487_459 := nbg BK459 hg
                     replace BK459 := bb BK459 hb
                     have NB480_487 := nbl BK480 hg
                     have NB487_480 := nbg BK480 hg
                     replace BK480 := bb BK480 hb
                     clear hb hbox hg
                     refine hK.out _ _ ⟨bc BK459 0, bc BK459 1, bc BK459 2, bc BK459 3, bc BK459 4, bc BK459 5, HS6_, HS7_, HS8_⟩ (fun hHeld => ?_)
                     clear hK K
                     refine norm_ (a' := ?_) ?_ ?_
                     rotate_left; (focus show Act.put _ (some 12) _ = _; simp only [Act.put, List.setIfInBounds_toArray, List.set_cons_zero, List.set_cons_succ, i64_w, i32_w]; rfl)
                     refine one_ (i := 10) (N := some 106) (stickfullaw15_FirstSame.bm 17 18431) rfl rfl (one_of HT_.out (by kernel_rfl)) (by decide) (fun K hK => ?_)
                     refine goes_ Try.func18 (by kernel_rfl) rfl #[.slice A0_1 l0_1.length c0_1, .int .i64 ((rd_T43 t471 (ji50)).f1), .agg #[.int .i64 a0_4, .int .i64 a0_5]] (by rfl) rfl rfl (by (try simp only [List.map_toArray, List.map_cons, List.map_nil]); first | done | (simp only [hji50]; rfl) | rfl | (simp only [List.length_drop, List.length_take]; rfl)) ?_
                     with_reducible refine (fill_One.calls k4 _ _ l0_1 ((rd_T43 t471 (ji50)).f1) a0_4 a0_5 t483 t484 t485 t486 _ ?side1 ?side2 A53.out).mono ?_
                     (case side1 => repeat (first | exact (Kd.C_below HR0_1.out HB.out) | (with_reducible refine Kd.C_alloc ?_ _) | (with_reducible refine Kd.C_drewN ?_ _) | (with_reducible refine Kd.C_drew ?_)))
                     (case side2 => exact HC0_1.out)
                     rintro e w60 ⟨rfl, hb⟩
                     have HS6_ := (hb.cell (World.block_lt_of_cell? _ _ (hHeld.2.2.2.2.2.2.1))).trans (hHeld.2.2.2.2.2.2.1)
                     have HS7_ := (hb.cell (World.block_lt_of_cell? _ _ (hHeld.2.2.2.2.2.2.2.1))).trans (hHeld.2.2.2.2.2.2.2.1)
                     have HS8_ := (hb.cell (World.block_lt_of_cell? _ _ (hHeld.2.2.2.2.2.2.2.2))).trans (hHeld.2.2.2.2.2.2.2.2)
                     refine ⟨_, rfl, ?_⟩
                     replace HO_7 := Aside0.mk (Kd.R_below (rx HO_7) hb)
                     replace BK459 := bb BK459 hb
                     replace BK480 := bb BK480 hb
                     replace BK487 := bb BK487 hb
                     replace HB := bh HB hb
                     (try clear hb)
                     (try clear hb2)
                     (try clear hk)
                     (try clear hi)
                     refine hK.out _ _ ⟨bc BK459 0, bc BK459 1, bc BK459 2, bc BK459 3, bc BK459 4, bc BK459 5, HS6_, HS7_, HS8_⟩ (fun hHeld => ?_)
                     clear hK K
                     refine norm_ (a' := ?_) ?_ ?_
                     rotate_left; (focus show Act.put _ (some 106) _ = _; simp only [Act.put, List.setIfInBounds_toArray, List.set_cons_zero, List.set_cons_succ, i64_w, i32_w]; rfl)
                     refine pure_ (i := 11) (N := some 95) (v := ?_) (a' := ?_) (stickfullaw15_FirstSame.bm 17 20479) rfl rfl (any_of HT_.out (by kernel_rfl)) (fun _ _ _ h => h) (Or.inl ⟨by rfl, ?_⟩) ?_ ?_
                     rotate_left; (focus intro w'; go_simp; with_reducible rfl); rotate_left; (focus simp only [Act.put, List.setIfInBounds_toArray, List.set_cons_zero, List.set_cons_succ, i64_w, i32_w]; rfl)
                     refine pure_ (i := 12) (N := some 107) (v := ?_) (a' := ?_) (stickfullaw15_FirstSame.bm 17 24575) rfl rfl (any_of HT_.out (by kernel_rfl)) (fun _ _ _ h => h) (Or.inl ⟨by rfl, ?_⟩) ?_ ?_
                     rotate_left; (focus intro w'; go_simp; with_reducible rfl); rotate_left; (focus simp only [Act.put, List.setIfInBounds_toArray, List.set_cons_zero, List.set_cons_succ, i64_w, i32_w]; rfl)
                     refine pure_ (i := 13) (N := some 108) (v := ?_) (a' := ?_) (stickfullaw15_FirstSame.bm 17 32767) rfl rfl (any_of HT_.out (by kernel_rfl)) (fun _ _ _ h => h) (Or.inl ⟨by rfl, ?_⟩) ?_ ?_
                     rotate_left; (focus intro w'; go_simp; with_reducible rfl); rotate_left; (focus simp only [Act.put, List.setIfInBounds_toArray, List.set_cons_zero, List.set_cons_succ, i64_w, i32_w]; rfl)
                     exact norm_ (by simp only [putAll, Act.put, List.setIfInBounds_toArray, List.set_cons_zero, List.set_cons_succ]) (hCont (gb487) _ ⟨hHeld, (rx HO_7), (by (with_reducible repeat (first | refine blk_drewN ?_ _ | refine blk_drew ?_ | refine blk_alloc ?_ _)); exact BK459.out), (by (with_reducible repeat (first | refine blk_drewN ?_ _ | refine blk_drew ?_ | refine blk_alloc ?_ _)); exact BK480.out), (by (with_reducible repeat (first | refine blk_drewN ?_ _ | refine blk_drew ?_ | refine blk_alloc ?_ _)); exact BK487.out), GW487.out, GE487.out, NB459_487.out, NB487_459.out, NB480_487.out, NB487_480.out, (bw HB)⟩)
                   rintro gb487 w61 ⟨hS_, h0_, h1_, h2_, h3_, h4_, h5_, h6_, h7_, h8_, h9_, h10_⟩
                   have n0_ : Aside0 (Kd.R k43 43 w61 w.heap.size (fun k_ => k_ ≠ gb480 ∧ k_ ≠ gb487) (.slice (some ad482) t471.length co57) t471) := ⟨h0_⟩
                   have n1_ : Aside0 (w61.heap[gb459]? = some (.cells #[.slice A0_0 l0_0.length c0_0, .slice A0_1 l0_1.length c0_1, .int .i64 a0_2, .int .i64 a0_3, .int .i64 a0_4, .int .i64 a0_5] 26 (0, 0))) := ⟨h1_⟩
                   have n2_ : Aside0 (w61.heap[gb480]? = some (.cells #[.int .i64 t476, .int .i64 t477, .bool t478] 43 (0, 0))) := ⟨h2_⟩
                   have n3_ : Aside0 (w61.heap[gb487]? = some (.cells #[.int .i64 0, .int .i64 0, .bool false] 43 (0, 0))) := ⟨h3_⟩
                   have n4_ : Aside0 (w.heap.size ≤ gb487) := ⟨h4_⟩
                   have n5_ : Aside0 (w.heap.size ≤ gb487) := ⟨h5_⟩
                   have n6_ : Aside0 (gb459 ≠ gb487) := ⟨h6_⟩
                   have n7_ : Aside0 (gb487 ≠ gb459) := ⟨h7_⟩
                   have n8_ : Aside0 (gb480 ≠ gb487) := ⟨h8_⟩
                   have n9_ : Aside0 (gb487 ≠ gb480) := ⟨h9_⟩
                   have n10_ : Aside0 (Below w.heap.size w w61) := ⟨h10_⟩
                   clear HO_7
                   clear BK459
                   clear BK480
                   clear HB
                   clear h0_ h1_ h2_ h3_ h4_ h5_ h6_ h7_ h8_ h9_ h10_
                   have HO_7 := n0_
                   have BK459 := n1_
                   have BK480 := n2_
                   have BK487 := n3_
                   have GW487 := n4_
                   have GE487 := n5_
                   have NB459_487 := n6_
                   have NB487_459 := n7_
                   have NB480_487 := n8_
                   have NB487_480 := n9_
                   have HB := n10_
                   clear n0_ n1_ n2_ n3_ n4_ n5_ n6_ n7_ n8_ n9_ n10_
                   have hHeld : w61.cell? ⟨gb459, 0, none⟩ = some (.slice A0_0 l0_0.length c0_0) ∧ w61.cell? ⟨gb459, 1, none⟩ = some (.slice A0_1 l0_1.length c0_1) ∧ w61.cell? ⟨gb459, 2, none⟩ = some (.int .i64 a0_2) ∧ w61.cell? ⟨gb459, 3, none⟩ = some (.int .i64 a0_3) ∧ w61.cell? ⟨gb459, 4, none⟩ = some (.int .i64 a0_4) ∧ w61.cell? ⟨gb459, 5, none⟩ = some (.int .i64 a0_5) ∧ w61.cell? (ad482.add (((ji50)).toNat * 3)) = some (.int .i64 ((rd_T43 t471 (ji50)).f0)) ∧ w61.cell? ⟨(ad482.add (((ji50)).toNat * 3)).block, (ad482.add (((ji50)).toNat * 3)).off + 1, none⟩ = some (.int .i64 ((rd_T43 t471 (ji50)).f1)) ∧ w61.cell? ⟨(ad482.add (((ji50)).toNat * 3)).block, (ad482.add (((ji50)).toNat * 3)).off + 2, none⟩ = some (.bool ((rd_T43 t471 (ji50)).f2)) := hS_
                   refine norm_ (a' := ?_) ?_ ?_
                   rotate_left; (focus simp only [putAll, Act.put, List.setIfInBounds_toArray, List.set_cons_zero, List.set_cons_succ]; rfl)
                   refine one_ (i := 15) (N := none) (stickfullaw15_FirstSame.bm 17 65535) rfl rfl (one_of HT_.out (by kernel_rfl)) (by decide) (fun K hK => ?_)
                   have hs62 : w61.cell? ⟨gb487, 0, none⟩ = some (.int .i64 0) := bc BK487 0
                   have hfs62 := blk_frozen BK487.out 0
                   have hns62_0 := NB459_487.out
                   have hns62_1 := NB480_487.out
                   have hms62_0 := NB487_459.out
                   have hms62_1 := NB487_480.out
                   have hs63 : w61.cell? ⟨gb487, 1, none⟩ = some (.int .i64 0) := bc BK487 1
                   have hfs63 := blk_frozen BK487.out 1
                   have hns63_0 := NB459_487.out
                   have hns63_1 := NB480_487.out
                   have hms63_0 := NB487_459.out
                   have hms63_1 := NB487_480.out
                   have hs64 : w61.cell? ⟨gb487, 2, none⟩ = some (.bool false) := bc BK487 2
                   have hfs64 := blk_frozen BK487.out 2
                   have hns64_0 := NB459_487.out
                   have hns64_1 := NB480_487.out
                   have hms64_0 := NB487_459.out
                   have hms64_1 := NB487_480.out
                   refine skip_ (w1 := ?_) (by rfl) rfl ?_ ?_
                   rotate_left; (focus go_simp; rfl)
                   refine hK.out _ _ ⟨(cfa NB459_487.out ((cfa NB459_487.out ((cfa NB459_487.out (hHeld.1)))))), (cfa NB459_487.out ((cfa NB459_487.out ((cfa NB459_487.out (hHeld.2.1)))))), (cfa NB459_487.out ((cfa NB459_487.out ((cfa NB459_487.out (hHeld.2.2.1)))))), (cfa NB459_487.out ((cfa NB459_487.out ((cfa NB459_487.out (hHeld.2.2.2.1)))))), (cfa NB459_487.out ((cfa NB459_487.out ((cfa NB459_487.out (hHeld.2.2.2.2.1)))))), (cfa NB459_487.out ((cfa NB459_487.out ((cfa NB459_487.out (hHeld.2.2.2.2.2.1)))))), ((cell_far (p := ⟨gb487, _, none⟩) (by first | exact Kd.own_blk (Kd.R_away HO_7.out (fun _ hk => hk.2)) | (rw [add_block]; exact Kd.own_blk (Kd.R_away HO_7.out (fun _ hk => hk.2))) | (show (Addr.add _ _).block ≠ _; rw [add_block]; exact Kd.own_blk (Kd.R_away HO_7.out (fun _ hk => hk.2))) | (dsimp only; exact Kd.own_blk (Kd.R_away HO_7.out (fun _ hk => hk.2)))) _).trans (((cell_far (p := ⟨gb487, _, none⟩) (by first | exact Kd.own_blk (Kd.R_away HO_7.out (fun _ hk => hk.2)) | (rw [add_block]; exact Kd.own_blk (Kd.R_away HO_7.out (fun _ hk => hk.2))) | (show (Addr.add _ _).block ≠ _; rw [add_block]; exact Kd.own_blk (Kd.R_away HO_7.out (fun _ hk => hk.2))) | (dsimp only; exact Kd.own_blk (Kd.R_away HO_7.out (fun _ hk => hk.2)))) _).trans (((cell_far (p := ⟨gb487, _, none⟩) (by first | exact Kd.own_blk (Kd.R_away HO_7.out (fun _ hk => hk.2)) | (rw [add_block]; exact Kd.own_blk (Kd.R_away HO_7.out (fun _ hk => hk.2))) | (show (Addr.add _ _).block ≠ _; rw [add_block]; exact Kd.own_blk (Kd.R_away HO_7.out (fun _ hk => hk.2))) | (dsimp only; exact Kd.own_blk (Kd.R_away HO_7.out (fun _ hk => hk.2)))) _).trans (hHeld.2.2.2.2.2.2.1)))))), ((cell_far (p := ⟨gb487, _, none⟩) (by first | exact Kd.own_blk (Kd.R_away HO_7.out (fun _ hk => hk.2)) | (rw [add_block]; exact Kd.own_blk (Kd.R_away HO_7.out (fun _ hk => hk.2))) | (show (Addr.add _ _).block ≠ _; rw [add_block]; exact Kd.own_blk (Kd.R_away HO_7.out (fun _ hk => hk.2))) | (dsimp only; exact Kd.own_blk (Kd.R_away HO_7.out (fun _ hk => hk.2)))) _).trans (((cell_far (p := ⟨gb487, _, none⟩) (by first | exact Kd.own_blk (Kd.R_away HO_7.out (fun _ hk => hk.2)) | (rw [add_block]; exact Kd.own_blk (Kd.R_away HO_7.out (fun _ hk => hk.2))) | (show (Addr.add _ _).block ≠ _; rw [add_block]; exact Kd.own_blk (Kd.R_away HO_7.out (fun _ hk => hk.2))) | (dsimp only; exact Kd.own_blk (Kd.R_away HO_7.out (fun _ hk => hk.2)))) _).trans (((cell_far (p := ⟨gb487, _, none⟩) (by first | exact Kd.own_blk (Kd.R_away HO_7.out (fun _ hk => hk.2)) | (rw [add_block]; exact Kd.own_blk (Kd.R_away HO_7.out (fun _ hk => hk.2))) | (show (Addr.add _ _).block ≠ _; rw [add_block]; exact Kd.own_blk (Kd.R_away HO_7.out (fun _ hk => hk.2))) | (dsimp only; exact Kd.own_blk (Kd.R_away HO_7.out (fun _ hk => hk.2)))) _).trans (hHeld.2.2.2.2.2.2.2.1)))))), ((cell_far (p := ⟨gb487, _, none⟩) (by first | exact Kd.own_blk (Kd.R_away HO_7.out (fun _ hk => hk.2)) | (rw [add_block]; exact Kd.own_blk (Kd.R_away HO_7.out (fun _ hk => hk.2))) | (show (Addr.add _ _).block ≠ _; rw [add_block]; exact Kd.own_blk (Kd.R_away HO_7.out (fun _ hk => hk.2))) | (dsimp only; exact Kd.own_blk (Kd.R_away HO_7.out (fun _ hk => hk.2)))) _).trans (((cell_far (p := ⟨gb487, _, none⟩) (by first | exact Kd.own_blk (Kd.R_away HO_7.out (fun _ hk => hk.2)) | (rw [add_block]; exact Kd.own_blk (Kd.R_away HO_7.out (fun _ hk => hk.2))) | (show (Addr.add _ _).block ≠ _; rw [add_block]; exact Kd.own_blk (Kd.R_away HO_7.out (fun _ hk => hk.2))) | (dsimp only; exact Kd.own_blk (Kd.R_away HO_7.out (fun _ hk => hk.2)))) _).trans (((cell_far (p := ⟨gb487, _, none⟩) (by first | exact Kd.own_blk (Kd.R_away HO_7.out (fun _ hk => hk.2)) | (rw [add_block]; exact Kd.own_blk (Kd.R_away HO_7.out (fun _ hk => hk.2))) | (show (Addr.add _ _).block ≠ _; rw [add_block]; exact Kd.own_blk (Kd.R_away HO_7.out (fun _ hk => hk.2))) | (dsimp only; exact Kd.own_blk (Kd.R_away HO_7.out (fun _ hk => hk.2)))) _).trans (hHeld.2.2.2.2.2.2.2.2))))))⟩ (fun hHeld => ?_)
                   clear hK K
                   refine pure_ (i := 16) (N := some 13) (v := ?_) (a' := ?_) (stickfullaw15_FirstSame.bm 17 131071) rfl rfl (any_of HT_.out (by kernel_rfl)) (fun _ _ _ h => h) (Or.inl ⟨by rfl, ?_⟩) ?_ ?_
                   rotate_left; (focus intro w'; go_simp; with_reducible rfl); rotate_left; (focus simp only [Act.put, List.setIfInBounds_toArray, List.set_cons_zero, List.set_cons_succ, i64_w, i32_w]; rfl)
                   refine done_ (done_of HT_.out (by kernel_rfl)) ?_
                   try go_wp2
                   have n0_ : Aside0 (Kd.R k43 43 (((w61.setCell ⟨gb487, 0, none⟩ (.int .i64 t483)).setCell ⟨gb487, 1, none⟩ (.int .i64 t484)).setCell ⟨gb487, 2, none⟩ (.bool t485)) w.heap.size (fun k_ => k_ ≠ gb480 ∧ k_ ≠ gb487) (.slice (some ad482) t471.length co57) t471) := ⟨by (with_reducible repeat (first | apply Kd.R_alloc | apply Kd.R_drewN | apply Kd.R_drew)); exact Kd.R_mono (Kd.R_far (p := ⟨gb487, 2, none⟩) (Kd.R_far (p := ⟨gb487, 1, none⟩) (Kd.R_far (p := ⟨gb487, 0, none⟩) (Kd.R_mono HO_7.out (fun k_ hk => (⟨hk, hk.2⟩ : _ ∧ k_ ≠ gb487))) (fun _ hk => hk.2) (.int .i64 t483)) (fun _ hk => hk.2) (.int .i64 t484)) (fun _ hk => hk.2) (.bool t485)) (fun _ hk => ⟨hk.1.1, hk.1.2⟩)⟩
                   have n1_ : Aside0 ((((w61.setCell ⟨gb487, 0, none⟩ (.int .i64 t483)).setCell ⟨gb487, 1, none⟩ (.int .i64 t484)).setCell ⟨gb487, 2, none⟩ (.bool t485)).heap[gb459]? = some (.cells #[.slice A0_0 l0_0.length c0_0, .slice A0_1 l0_1.length c0_1, .int .i64 a0_2, .int .i64 a0_3, .int .i64 a0_4, .int .i64 a0_5] 26 (0, 0))) := ⟨by (with_reducible repeat (first | refine blk_drewN ?_ _ | refine blk_drew ?_ | refine blk_alloc ?_ _)); refine blk_far ?_ NB459_487.out _; (with_reducible repeat (first | refine blk_drewN ?_ _ | refine blk_drew ?_ | refine blk_alloc ?_ _)); refine blk_far ?_ NB459_487.out _; (with_reducible repeat (first | refine blk_drewN ?_ _ | refine blk_drew ?_ | refine blk_alloc ?_ _)); refine blk_far ?_ NB459_487.out _; (with_reducible repeat (first | refine blk_drewN ?_ _ | refine blk_drew ?_ | refine blk_alloc ?_ _)); exact BK459.out⟩
                   have n2_ : Aside0 ((((w61.setCell ⟨gb487, 0, none⟩ (.int .i64 t483)).setCell ⟨gb487, 1, none⟩ (.int .i64 t484)).setCell ⟨gb487, 2, none⟩ (.bool t485)).heap[gb480]? = some (.cells #[.int .i64 t476, .int .i64 t477, .bool t478] 43 (0, 0))) := ⟨by (with_reducible repeat (first | refine blk_drewN ?_ _ | refine blk_drew ?_ | refine blk_alloc ?_ _)); refine blk_far ?_ NB480_487.out _; (with_reducible repeat (first | refine blk_drewN ?_ _ | refine blk_drew ?_ | refine blk_alloc ?_ _)); refine blk_far ?_ NB480_487.out _; (with_reducible repeat (first | refine blk_drewN ?_ _ | refine blk_drew ?_ | refine blk_alloc ?_ _)); refine blk_far ?_ NB480_487.out _; (with_reducible repeat (first | refine blk_drewN ?_ _ | refine blk_drew ?_ | refine blk_alloc ?_ _)); exact BK480.out⟩
                   have n3_ : Aside0 ((((w61.setCell ⟨gb487, 0, none⟩ (.int .i64 t483)).setCell ⟨gb487, 1, none⟩ (.int .i64 t484)).setCell ⟨gb487, 2, none⟩ (.bool t485)).heap[gb487]? = some (.cells #[.int .i64 t483, .int .i64 t484, .bool t485] 43 (0, 0))) := ⟨by (with_reducible repeat (first | refine blk_drewN ?_ _ | refine blk_drew ?_ | refine blk_alloc ?_ _)); refine blk_put (cs := #[.int .i64 t483, .int .i64 t484, .bool false]) ?_ 2 _ rfl; (with_reducible repeat (first | refine blk_drewN ?_ _ | refine blk_drew ?_ | refine blk_alloc ?_ _)); refine blk_put (cs := #[.int .i64 t483, .int .i64 0, .bool false]) ?_ 1 _ rfl; (with_reducible repeat (first | refine blk_drewN ?_ _ | refine blk_drew ?_ | refine blk_alloc ?_ _)); refine blk_put (cs := #[.int .i64 0, .int .i64 0, .bool false]) ?_ 0 _ rfl; (with_reducible repeat (first | refine blk_drewN ?_ _ | refine blk_drew ?_ | refine blk_alloc ?_ _)); exact BK487.out⟩
                   have n4_ : Aside0 (Below w.heap.size w (((w61.setCell ⟨gb487, 0, none⟩ (.int .i64 t483)).setCell ⟨gb487, 1, none⟩ (.int .i64 t484)).setCell ⟨gb487, 2, none⟩ (.bool t485))) := ⟨by repeat (first | (with_reducible first | exact HB.out | apply below_alloc | apply pw_below_drewN | apply below_drew1 | refine below_set ?_ GE459.out | refine below_set ?_ GE480.out | refine below_set ?_ GE487.out) | exact HB.out)⟩
                   (try clear HO_7)
                   (try clear BK459)
                   (try clear BK480)
                   (try clear BK487)
                   (try clear HB)
                   generalize (((w61.setCell ⟨gb487, 0, none⟩ (.int .i64 t483)).setCell ⟨gb487, 1, none⟩ (.int .i64 t484)).setCell ⟨gb487, 2, none⟩ (.bool t485)) = w65 at n0_ n1_ n2_ n3_ n4_ ⊢
                   have HO_7 := n0_
                   have BK459 := n1_
                   have BK480 := n2_
                   have BK487 := n3_
                   have HB := n4_
                   clear n0_ n1_ n2_ n3_ n4_
                   replace HO_7 := Aside0.mk (Kd.R_drew HO_7.out)
                   replace BK459 := Aside0.mk (blk_drew BK459.out)
                   replace BK480 := Aside0.mk (blk_drew BK480.out)
                   replace BK487 := Aside0.mk (blk_drew BK487.out)
                   replace HB := Aside0.mk (below_drew1 HB.out)
                   have p488 : 0 ≤ (x11_4 : Int) := of_decide_eq_true (by first | (with_reducible assumption) | assumption)
                   have q488 : x11_4 < (t471.length : Int) := of_decide_eq_true (by first | (with_reducible assumption) | assumption)
                   obtain ⟨ad488, e488, hx488_0, hx488_1, hx488_2⟩ := at_T43 (Kd.R_reads' HO_7.out).2.2 x11_4 p488 q488
                   obtain rfl : ad482 = ad488 := (by injection e488)
                   replace p488 := eq_true p488
                   replace q488 := eq_true q488
                   refine start_ (n := 10) (S := fun w' => w'.cell? ⟨gb487, 0, none⟩ = some (.int .i64 t483) ∧ w'.cell? ⟨gb487, 1, none⟩ = some (.int .i64 t484) ∧ w'.cell? ⟨gb487, 2, none⟩ = some (.bool t485) ∧ w'.cell? (ad482.add ((x11_4).toNat * 3)) = some (.int .i64 ((rd_T43 t471 x11_4).f0)) ∧ w'.cell? ⟨(ad482.add ((x11_4).toNat * 3)).block, (ad482.add ((x11_4).toNat * 3)).off + 1, none⟩ = some (.int .i64 ((rd_T43 t471 x11_4).f1)) ∧ w'.cell? ⟨(ad482.add ((x11_4).toNat * 3)).block, (ad482.add ((x11_4).toNat * 3)).off + 2, none⟩ = some (.bool ((rd_T43 t471 x11_4).f2))) (ds := []) (stickfullaw15_FirstSame.bm 10 0) (by kernel_rfl) rfl rfl ⟨bc BK487 0, bc BK487 1, bc BK487 2, hx488_0, hx488_1, hx488_2⟩ (fun hHeld => ?_); refine with_tabW stickfullaw15_FirstSame.tab17 stickfullaw15_FirstSame.bits17 (fun HT_ HW_ => ?_)
                   generalize w65.drew = w66 at HO_7 BK459 BK480 BK487 HB hx488_0 hx488_1 hx488_2 hHeld ⊢
                   refine pure_ (i := 0) (N := some 109) (v := ?_) (a' := ?_) (stickfullaw15_FirstSame.bm 10 1) rfl rfl (any_of HT_.out (by kernel_rfl)) (fun _ _ _ h => h) (Or.inl ⟨by rfl, ?_⟩) ?_ ?_
                   rotate_left; (focus intro w'; go_simp; with_reducible rfl); rotate_left; (focus simp only [Act.put, List.setIfInBounds_toArray, List.set_cons_zero, List.set_cons_succ, i64_w, i32_w]; rfl)
                   refine pure_ (i := 1) (N := some 110) (v := ?_) (a' := ?_) (stickfullaw15_FirstSame.bm 10 3) rfl rfl (any_of HT_.out (by kernel_rfl)) (fun _ _ _ h => h) (Or.inl ⟨by rfl, ?_⟩) ?_ ?_
                   rotate_left; (focus intro w'; go_simp; with_reducible rfl); rotate_left; (focus simp only [Act.put, List.setIfInBounds_toArray, List.set_cons_zero, List.set_cons_succ, i64_w, i32_w]; rfl)
                   refine pure_ (i := 2) (N := some 111) (v := ?_) (a' := ?_) (stickfullaw15_FirstSame.bm 10 7) rfl rfl (any_of HT_.out (by kernel_rfl)) (fun _ _ _ h => h) (Or.inl ⟨by rfl, ?_⟩) ?_ ?_
                   rotate_left; (focus intro w'; go_simp; with_reducible rfl); rotate_left; (focus simp only [Act.put, List.setIfInBounds_toArray, List.set_cons_zero, List.set_cons_succ, i64_w, i32_w]; rfl)
                   refine pure_ (i := 4) (N := some 113) (v := ?_) (a' := ?_) (stickfullaw15_FirstSame.bm 10 23) rfl rfl (any_of HT_.out (by kernel_rfl)) (fun _ _ _ h => h) (Or.inl ⟨by rfl, ?_⟩) ?_ ?_
                   rotate_left; (focus intro w'; go_simp; with_reducible rfl); rotate_left; (focus simp only [Act.put, List.setIfInBounds_toArray, List.set_cons_zero, List.set_cons_succ, i64_w, i32_w]; rfl)
                   refine pure_ (i := 5) (N := some 114) (v := ?_) (a' := ?_) (stickfullaw15_FirstSame.bm 10 55) rfl rfl (any_of HT_.out (by kernel_rfl)) (fun _ _ _ h => h) (Or.inl ⟨by rfl, ?_⟩) ?_ ?_
                   rotate_left; (focus intro w'; go_simp; with_reducible rfl); rotate_left; (focus simp only [Act.put, List.setIfInBounds_toArray, List.set_cons_zero, List.set_cons_succ, i64_w, i32_w]; rfl)
                   refine pure_ (i := 6) (N := some 115) (v := ?_) (a' := ?_) (stickfullaw15_FirstSame.bm 10 119) rfl rfl (any_of HT_.out (by kernel_rfl)) (fun _ _ _ h => h) (Or.inl ⟨by rfl, ?_⟩) ?_ ?_
                   rotate_left; (focus intro w'; go_simp; with_reducible rfl); rotate_left; (focus simp only [Act.put, List.setIfInBounds_toArray, List.set_cons_zero, List.set_cons_succ, i64_w, i32_w]; rfl)
                   refine take_ (i := 3) (N := some 112) (v := ?_) (a' := ?_) (stickfullaw15_FirstSame.bm 10 127) rfl rfl (take_ofW HT_.out HW_.out (by kernel_rfl)) (fun _ _ _ h => h) (Or.inl ⟨by rfl, ?_⟩) hHeld ?_ ?_
                   rotate_left; (focus rintro w' ⟨s0, s1, s2, s3, s4, s5⟩; go_simp; with_reducible rfl); rotate_left; (focus simp only [Act.put, List.setIfInBounds_toArray, List.set_cons_zero, List.set_cons_succ, i64_w, i32_w]; rfl)
                   refine take_ (i := 7) (N := some 116) (v := ?_) (a' := ?_) (stickfullaw15_FirstSame.bm 10 255) rfl rfl (take_ofW HT_.out HW_.out (by kernel_rfl)) (fun _ _ _ h => h) (Or.inl ⟨by rfl, ?_⟩) hHeld ?_ ?_
                   rotate_left; (focus rintro w' ⟨s0, s1, s2, s3, s4, s5⟩; go_simp; with_reducible rfl); rotate_left; (focus simp only [Act.put, List.setIfInBounds_toArray, List.set_cons_zero, List.set_cons_succ, i64_w, i32_w]; rfl)
                   refine pure_ (i := 8) (N := some 117) (v := ?_) (a' := ?_) (stickfullaw15_FirstSame.bm 10 511) rfl rfl (any_of HT_.out (by kernel_rfl)) (fun _ _ _ h => h) (Or.inl ⟨by rfl, ?_⟩) ?_ ?_
                   rotate_left; (focus intro w'; go_simp; with_reducible rfl); rotate_left; (focus simp only [Act.put, List.setIfInBounds_toArray, List.set_cons_zero, List.set_cons_succ, i64_w, i32_w]; rfl)
                   refine pure_ (i := 9) (N := some 118) (v := ?_) (a' := ?_) (stickfullaw15_FirstSame.bm 10 1023) rfl rfl (any_of HT_.out (by kernel_rfl)) (fun _ _ _ h => h) (Or.inl ⟨by rfl, ?_⟩) ?_ ?_
                   rotate_left; (focus intro w'; go_simp; with_reducible rfl); rotate_left; (focus simp only [Act.put, List.setIfInBounds_toArray, List.set_cons_zero, List.set_cons_succ, i64_w, i32_w]; rfl)
                   refine done_ (done_of HT_.out (by kernel_rfl)) ?_
                   try go_wp2
                   go_roundg k4
                   case measure => have := HJ10.out; have := HJ24.out; have := HJ34.out; have := HK4.out; omega
                   case rel => exact ⟨(wrap64 (x11_4 + 1)), (by first | rfl | (simp; done) | (simp [*]; done)), H', ⟨by have := HJ10.out; have := HJ24.out; have := HJ34.out; have := HK4.out; omega⟩, ⟨by (with_reducible repeat (first | apply Kd.R_alloc | apply Kd.R_drewN | apply Kd.R_drew)); exact Kd.R_mono HO_7.out (fun _ hk => hk.1)⟩, ⟨by (with_reducible repeat (first | refine blk_drewN ?_ _ | refine blk_drew ?_ | refine blk_alloc ?_ _)); exact BK459.out⟩, ⟨by (with_reducible repeat (first | refine blk_drewN ?_ _ | refine blk_drew ?_ | refine blk_alloc ?_ _)); exact BK480.out⟩, ⟨by repeat (first | (with_reducible first | exact HB.out | apply below_alloc | apply pw_below_drewN | apply below_drew1 | refine below_set ?_ GE459.out | refine below_set ?_ GE480.out | refine below_set ?_ GE487.out) | exact HB.out)⟩⟩
                 ·rw [if_neg c55] at H
                  exact absurd H (by simp)
                ·rw [if_neg c54] at H
                 have c54b0 : (t486 == 0) = false := beq_eq_false_iff_ne.mpr c54
                 have c54b1 : (t486 != 0) = true := bne_iff_ne.mpr c54
                 exact absurd ((Option.some.inj H).trans HR_.out) (by decide)
               ·rw [if_neg c52] at H
                exact absurd H (by simp)
              ·rw [if_neg c51] at H
               exact absurd H (by simp)
             ·rw [if_neg c49] at H
              have c49b0 : decide (x11_4 < (t471.length : Int)) = false := decide_eq_false c49
              clear c49
              replace H := Option.bind_eq_some_iff.mp H
              obtain ⟨t489, A670, H⟩ := H
              replace H : (some t489) = some r := H
              have A67 := Aside0.mk A670
              clear A670
              obtain rfl := Option.some.inj H
              obtain ⟨Ao68, co68, eo68⟩ := Kd.R_slice HO_7.out
              subst eo68
              go_wp2_with (first | ((with_reducible refine gate_callee (f := 8) rfl ?_); refine goesB (some 119) rfl rfl Try.func8 #[] rfl ?_; (with_reducible refine (stickfullaw15_head.calls k4  t489 _ A67.out).mono ?_); rintro e w69 ⟨rfl, hb⟩; refine ⟨_, rfl, ?_⟩; replace HO_7 := Aside0.mk (Kd.R_below (rx HO_7) hb); replace BK459 := bb BK459 hb; replace BK480 := bb BK480 hb; replace HB := bh HB hb; (try clear hb); (try clear hb2); (try clear hk); (try clear hi)))
              go_ret
              exact ⟨by first | rfl | (simp [errW_none, errW_some] <;> rfl) | (simp [*, errW_none, errW_some] <;> rfl), by repeat (first | (with_reducible first | exact HB.out | apply below_alloc | apply pw_below_drewN | apply below_drew1 | refine below_set ?_ GE459.out | refine below_set ?_ GE480.out) | exact HB.out)⟩

end Go.Proofs.Ytdmlnkgpjileaaa.HFirst
