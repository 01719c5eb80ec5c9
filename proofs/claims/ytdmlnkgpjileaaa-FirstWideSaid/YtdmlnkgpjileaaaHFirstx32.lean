-- Written by this claim's own program over the kit's print.
import Derived.Test.YtdmlnkgpjileaaaM3
import Derived.Test.YtdmlnkgpjileaaaHFirstx4
import Derived.Test.YtdmlnkgpjileaaaHFirstx18
import Derived.Test.YtdmlnkgpjileaaaHFirstx20
import Derived.Test.YtdmlnkgpjileaaaHFirstx21
import Derived.Test.YtdmlnkgpjileaaaHFirstx31
namespace Go.Proofs.Ytdmlnkgpjileaaa.HFirst
open Go.RowKit Go.Proofs.YtdmlnkgpjileaaaW.PrintWords Go.Proofs.YtdmlnkgpjileaaaW.PrintLast Go.Proofs.YtdmlnkgpjileaaaW.PrintMore Go.Proofs.Ytdmlnkgpjileaaa.Hand
attribute [local go_sem] max2_int min2_int max_two min_two max_three min_three max_four min_four   -- for this text's walks alone
set_option linter.unusedVariables false
set_option linter.unusedSimpArgs false

attribute [local go_sem high] eqA43
/-- Which operations have been taken: the bits of a number. -/
def stickfullaw15_FirstWide.bits : Nat → Nat → List Bool
 | 0, _ => []
 | n + 1, m => Nat.beq (m % 2) 1 :: stickfullaw15_FirstWide.bits n (m / 2)
def stickfullaw15_FirstWide.bm (n m : Nat) : Array Bool := (stickfullaw15_FirstWide.bits n m).toArray
/-! ### stickfullaw15_FirstWide: function 5 -/
mutual
def stickfullaw15_FirstWide.j0 : Nat → Bool → List (S46) → List (S46) → Int → Int → Int → Int → Option (Bool)
 | 0, _, _, _, _, _, _, _ => none
 | k + 1, x18, x426000, x426001, x426002, x426003, x426004, x426005 => if x18 = true then ((stickfullaw15_head.f k).bind fun t428 => (some t428)) else (stickfullaw15_FirstWide.l0 k 0 x426000 x426001 x426002 x426003 x426004 x426005)
def stickfullaw15_FirstWide.l0 : Nat → Int → List (S46) → List (S46) → Int → Int → Int → Int → Option (Bool)
 | 0, _, _, _, _, _, _, _ => none
 | k + 1, x3, x426000, x426001, x426002, x426003, x426004, x426005 => if x3 < (x426000.length : Int) then (if 0 ≤ x3 then (if ((rd_T46 x426000 x3).f0) = 5 then ((stickfullaw15_head.f k).bind fun t431 => (some t431)) else (if ((rd_T46 x426000 x3).f3) < 0 then ((stickfullaw15_head.f k).bind fun t432 => (some t432)) else (if ((rd_T46 x426000 x3).f3) > 1099511627776 then ((stickfullaw15_head.f k).bind fun t433 => (some t433)) else (if x3 < (x426001.length : Int) then (if ((rd_T46 x426001 x3).f3) < 0 then ((stickfullaw15_head.f k).bind fun t435 => (some t435)) else (stickfullaw15_FirstWide.l0 k (wrap64 (x3 + 1)) x426000 x426001 x426002 x426003 x426004 x426005)) else (none))))) else (none)) else ((first_Lines.f k x426000 x426001 1125899906842624 0 0 0).bind fun bt436 => ((first_Cells.f x426000 x426001 bt436.1).bind fun bt440 => (if bt436.2 = 0 then (if bt440.2 = 0 then (if (bt436.1.length : Int) = 1 then (if 0 < (bt436.1.length : Int) then (if (((rd_T43 bt436.1 0).f0) == 0 && (((rd_T43 bt436.1 0).f1) == (x426000.length : Int) && (!((rd_T43 bt436.1 0).f2)))) = true then (if (bt440.1.length : Int) = 1 then (if 0 < (bt440.1.length : Int) then ((stickfulref11_Same.f k (rd_L4 bt440.1 0) x426000).bind fun t446 => (if t446 = true then ((stickfullaw15_head.f k).bind fun t447 => (some t447)) else (some false))) else (none)) else (some false)) else (some false)) else (none)) else (some false)) else (some false)) else (some false))))
end
def stickfullaw15_FirstWide.f (k : Nat) (l0_0 : List (S46)) (l0_1 : List (S46)) (a0_2 a0_3 a0_4 a0_5 : Int) : Option (Bool) := (stickfullaw15_great.f l0_0 l0_1 a0_2 a0_3 a0_4 a0_5).bind fun t426 => (if t426 = true then (stickfullaw15_FirstWide.j0 k true l0_0 l0_1 a0_2 a0_3 a0_4 a0_5) else ((first_Alike.f l0_0 l0_1).bind fun t427 => (stickfullaw15_FirstWide.j0 k (!t427) l0_0 l0_1 a0_2 a0_3 a0_4 a0_5)))
theorem stickfullaw15_FirstWide.mono_l : ∀ k, (∀ y0 y1 y2 y3 y4 y5 y6, LeO (stickfullaw15_FirstWide.j0 k y0 y1 y2 y3 y4 y5 y6) (stickfullaw15_FirstWide.j0 (k + 1) y0 y1 y2 y3 y4 y5 y6)) ∧ (∀ y0 y1 y2 y3 y4 y5 y6, LeO (stickfullaw15_FirstWide.l0 k y0 y1 y2 y3 y4 y5 y6) (stickfullaw15_FirstWide.l0 (k + 1) y0 y1 y2 y3 y4 y5 y6))
 | 0 => ⟨fun _ _ _ _ _ _ _ r h => by simp [stickfullaw15_FirstWide.j0] at h, fun _ _ _ _ _ _ _ r h => by simp [stickfullaw15_FirstWide.l0] at h⟩
 | k + 1 => by
  obtain ⟨ih0, ih1⟩ := stickfullaw15_FirstWide.mono_l k
  refine ⟨?_, ?_⟩
  ·intro y0 y1 y2 y3 y4 y5 y6
   unfold stickfullaw15_FirstWide.j0
   repeat' first
   | (with_reducible exact ih0 _ _ _ _ _ _ _)
   | (with_reducible exact ih1 _ _ _ _ _ _ _)
   | (with_reducible exact first_Lines.mono _ _ _ _ _ _ _)
   | (with_reducible exact stickfullaw15_head.mono _)
   | (with_reducible exact stickfulref11_Same.mono _ _ _)
   | (with_reducible exact LeO.refl _)
   | (with_reducible exact LeO.none _)
   | (with_reducible refine LeO.ite ?_ ?_)
   | (with_reducible refine LeO.bind ?_ (fun _ => ?_))
   | exact ih0 _ _ _ _ _ _ _
   | exact ih1 _ _ _ _ _ _ _
   | exact first_Lines.mono _ _ _ _ _ _ _
   | exact stickfullaw15_head.mono _
   | exact stickfulref11_Same.mono _ _ _
   | exact LeO.none _
   | refine LeO.ite ?_ ?_
   | refine LeO.bind ?_ (fun _ => ?_)
  ·intro y0 y1 y2 y3 y4 y5 y6
   unfold stickfullaw15_FirstWide.l0
   repeat' first
   | (with_reducible exact ih0 _ _ _ _ _ _ _)
   | (with_reducible exact ih1 _ _ _ _ _ _ _)
   | (with_reducible exact first_Lines.mono _ _ _ _ _ _ _)
   | (with_reducible exact stickfullaw15_head.mono _)
   | (with_reducible exact stickfulref11_Same.mono _ _ _)
   | (with_reducible exact LeO.refl _)
   | (with_reducible exact LeO.none _)
   | (with_reducible refine LeO.ite ?_ ?_)
   | (with_reducible refine LeO.bind ?_ (fun _ => ?_))
   | exact ih0 _ _ _ _ _ _ _
   | exact ih1 _ _ _ _ _ _ _
   | exact first_Lines.mono _ _ _ _ _ _ _
   | exact stickfullaw15_head.mono _
   | exact stickfulref11_Same.mono _ _ _
   | exact LeO.none _
   | refine LeO.ite ?_ ?_
   | refine LeO.bind ?_ (fun _ => ?_)
theorem stickfullaw15_FirstWide.mono : ∀ a0 a1 a2 a3 a4 a5 k, LeO (stickfullaw15_FirstWide.f k a0 a1 a2 a3 a4 a5) (stickfullaw15_FirstWide.f (k + 1) a0 a1 a2 a3 a4 a5) := by
 intro a0 a1 a2 a3 a4 a5 k
 obtain ⟨ih0, ih1⟩ := stickfullaw15_FirstWide.mono_l k
 unfold stickfullaw15_FirstWide.f
 repeat' first
   | (with_reducible exact ih0 _ _ _ _ _ _ _)
   | (with_reducible exact ih1 _ _ _ _ _ _ _)
   | (with_reducible exact first_Lines.mono _ _ _ _ _ _ _)
   | (with_reducible exact stickfullaw15_head.mono _)
   | (with_reducible exact stickfulref11_Same.mono _ _ _)
   | (with_reducible exact LeO.refl _)
   | (with_reducible exact LeO.none _)
   | (with_reducible refine LeO.ite ?_ ?_)
   | (with_reducible refine LeO.bind ?_ (fun _ => ?_))
   | exact ih0 _ _ _ _ _ _ _
   | exact ih1 _ _ _ _ _ _ _
   | exact first_Lines.mono _ _ _ _ _ _ _
   | exact stickfullaw15_head.mono _
   | exact stickfulref11_Same.mono _ _ _
   | exact LeO.none _
   | refine LeO.ite ?_ ?_
   | refine LeO.bind ?_ (fun _ => ?_)
def stickfullaw15_FirstWide.T11 : Bool × List (List Nat × List Nat) := (true, [([], []), ([0], [0]), ([1], [1]), ([2], [2]), ([3, 2], [2, 3]), ([2, 4], [2, 4]), ([5, 2], [5]), ([6], [6]), ([7, 6], [6, 7]), ([8, 6], [6, 8]), ([6, 9], [6, 9]), ([10, 6], [10]), ([11], [11]), ([12, 11], [11, 12]), ([13, 11], [11, 13]), ([11], [11]), ([15, 11], [11, 15]), ([16, 11], [11, 16]), ([17, 11], [11, 17]), ([14, 18, 11], [11, 14, 18]), ([11, 19], [11, 19]), ([20, 11], [20]), ([21], [21]), ([22, 21], [21, 22]), ([23, 21], [21, 23]), ([21, 24], [21, 24]), ([25, 21], [25]), ([26], [26]), ([27, 26], [26, 27]), ([28, 26], [26, 28]), ([26], [26]), ([30, 26], [26, 30]), ([29, 31, 26, 26], [26, 29, 31]), ([26, 32], [26, 32]), ([33, 32], [33]), ([34, 34], [34]), ([34, 35], [34, 35]), ([36, 35, 0, 1, 2, 3, 4, 5, 6, 7, 8, 9, 10, 11, 12, 13, 14, 15, 16, 17, 18, 19, 20, 21, 22, 23, 24, 25, 26, 27, 28, 29, 30, 31, 32, 33, 34, 35, 36], [36])])
def stickfullaw15_FirstWide.B11 : List Nat := [0, 1, 3, 7, 15, 31, 63, 127, 255, 511, 1023, 2047, 4095, 8191, 16383, 4095, 36863, 102399, 233471, 524287, 1048575, 2097151, 4194303, 8388607, 16777215, 33554431, 67108863, 134217727, 268435455, 536870911, 134217727, 1207959551, 4294967295, 8589934591, 17179869183, 34359738367, 68719476735, 137438953471]
theorem stickfullaw15_FirstWide.tab11 : rtab .any (opsOf Try.f5 11) = stickfullaw15_FirstWide.T11 := by kernel_rfl
theorem stickfullaw15_FirstWide.bits11 : waitsOk stickfullaw15_FirstWide.T11.2 stickfullaw15_FirstWide.B11 = true := by kernel_rfl
set_option maxHeartbeats 8000000 in
set_option maxRecDepth 100000 in
theorem stickfullaw15_FirstWide.calls_t (k : Nat) (A0_0 : Option Addr) (c0_0 : Nat) (l0_0 : List (S46)) (A0_1 : Option Addr) (c0_1 : Nat) (l0_1 : List (S46)) (a0_2 a0_3 a0_4 a0_5 : Int) (r : Bool) (w : World) (hr0_0 : Kd.C k46 w A0_0 l0_0.length l0_0) (hc0_0 : l0_0.length ≤ c0_0) (hr0_1 : Kd.C k46 w A0_1 l0_1.length l0_1) (hc0_1 : l0_1.length ≤ c0_1) (h : stickfullaw15_FirstWide.f k l0_0 l0_1 a0_2 a0_3 a0_4 a0_5 = some r) (hr_ : r = true) :
  Calls Try.prog 5 #[.agg #[.slice A0_0 l0_0.length c0_0, .slice A0_1 l0_1.length c0_1, .int .i64 a0_2, .int .i64 a0_3, .int .i64 a0_4, .int .i64 a0_5]] w fun e w' => e = .returned (.bool r) ∧ Below w.heap.size w w' := by
 have hu26 := Try.underlying26
 have hu46 := Try.underlying46
 have hu24 := Try.underlying24
 have hu43 := Try.underlying43
 have HR_ := Aside0.mk hr_
 clear hr_
 have HR0_0 := Aside0.mk hr0_0
 have HC0_0 := Aside0.mk hc0_0
 clear hr0_0 hc0_0
 have HR0_1 := Aside0.mk hr0_1
 have HC0_1 := Aside0.mk hc0_1
 clear hr0_1 hc0_1
 have HB := Aside0.mk (Below.refl w.heap.size w)
 have H : ((stickfullaw15_great.f l0_0 l0_1 a0_2 a0_3 a0_4 a0_5).bind fun t426 => (if t426 = true then (stickfullaw15_FirstWide.j0 k true l0_0 l0_1 a0_2 a0_3 a0_4 a0_5) else ((first_Alike.f l0_0 l0_1).bind fun t427 => (stickfullaw15_FirstWide.j0 k (!t427) l0_0 l0_1 a0_2 a0_3 a0_4 a0_5)))) = some r := h
 clear h
 have HC2 := Aside0.mk H
 clear H
 go_enter Try.func5, Try.ntmps5
 go_upto_region 1 with (first | ((with_reducible refine gate_dst (N := 1) rfl ?_); (try (refine gate_guard (by rfl) ?_; dsimp only)); refine box_event ?hg (N := 1) ?hd (cs := #[.slice A0_0 l0_0.length c0_0, .slice A0_1 l0_1.length c0_1, .int .i64 a0_2, .int .i64 a0_3, .int .i64 a0_4, .int .i64 a0_5]) (t := 26) ?hr ?_; (case hd => rfl); (case hg => rfl); (case hr => first | (go_simp; done) | (go_simp; rfl)); intro gb425 hg w3 hbox hb; have BK425 := Aside0.mk (hbox); have GW425 := bge HB hg; have GE425 := bge HB hg; replace HB := bh HB hb; clear hb hbox hg))
 (try simp only [Act.put, List.setIfInBounds_toArray, List.set_cons_zero, List.set_cons_succ])
 go_cut [18] (fun v18 wc => ∃ (kq : Nat) (x18_1 : Bool), v18 = .bool x18_1 ∧ Aside0 (stickfullaw15_FirstWide.j0 kq x18_1 l0_0 l0_1 a0_2 a0_3 a0_4 a0_5 = some r) ∧ Aside0 (kq ≤ k) ∧ Aside0 (wc.heap[gb425]? = some (.cells #[(.slice A0_0 l0_0.length c0_0), (.slice A0_1 l0_1.length c0_1), .int .i64 a0_2, .int .i64 a0_3, .int .i64 a0_4, .int .i64 a0_5] 26 (0, 0))) ∧ Aside0 (Below w.heap.size w wc))
 case first =>
  have H := HC2.out
  clear HC2
  replace H := Option.bind_eq_some_iff.mp H
  obtain ⟨t426, A40, H⟩ := H
  replace H : (if t426 = true then (stickfullaw15_FirstWide.j0 k true l0_0 l0_1 a0_2 a0_3 a0_4 a0_5) else ((first_Alike.f l0_0 l0_1).bind fun t427 => (stickfullaw15_FirstWide.j0 k (!t427) l0_0 l0_1 a0_2 a0_3 a0_4 a0_5))) = some r := H
  have A4 := Aside0.mk A40
  clear A40
  by_cases c5 : t426 = true
  ·subst c5
   have H1 : (stickfullaw15_FirstWide.j0 k true l0_0 l0_1 a0_2 a0_3 a0_4 a0_5) = some r := by rw [if_pos rfl] at H; exact H
   clear H
   have H := H1
   clear H1
   have H' := Aside0.mk H
   clear H
   obtain ⟨hcz6_0, hcz6_1, hcz6_2, hcz6_3, hcz6_4, hcz6_5⟩ := cz6 BK425
   obtain ⟨hfz6_0, hfz6_1, hfz6_2, hfz6_3, hfz6_4, hfz6_5⟩ := fz6 BK425
   go_wp2_with (first | ((with_reducible refine gate_callee (f := 7) rfl ?_); refine goesB (some 10) rfl rfl Try.func7 #[.agg #[.slice A0_0 l0_0.length c0_0, .slice A0_1 l0_1.length c0_1, .int .i64 a0_2, .int .i64 a0_3, .int .i64 a0_4, .int .i64 a0_5]] rfl ?_; (with_reducible refine (stickfullaw15_great.calls _ _ l0_0 _ _ l0_1 a0_2 a0_3 a0_4 a0_5 true _ ?side1 ?side2 ?side3 ?side4 A4.out).mono ?_); (case side1 => repeat (first | exact (Kd.C_below HR0_0.out HB.out) | (with_reducible refine Kd.C_alloc ?_ _) | (with_reducible refine Kd.C_drewN ?_ _) | (with_reducible refine Kd.C_drew ?_))); (case side2 => exact HC0_0.out); (case side3 => repeat (first | exact (Kd.C_below HR0_1.out HB.out) | (with_reducible refine Kd.C_alloc ?_ _) | (with_reducible refine Kd.C_drewN ?_ _) | (with_reducible refine Kd.C_drew ?_))); (case side4 => exact HC0_1.out); rintro e w7 ⟨rfl, hb⟩; refine ⟨_, rfl, ?_⟩; replace BK425 := bb BK425 hb; replace HB := bh HB hb; (try clear hb); (try clear hb2); (try clear hk); (try clear hi)))
   go_meet
   case rel => exact ⟨_, (true), (by first | rfl | (simp; done) | (simp [*]; done)), H', ⟨by first | omega | exact Nat.le_refl _⟩, ⟨by (with_reducible repeat (first | refine blk_drewN ?_ _ | refine blk_drew ?_ | refine blk_alloc ?_ _)); exact BK425.out⟩, ⟨by repeat (first | (with_reducible first | exact HB.out | apply below_alloc | apply pw_below_drewN | apply below_drew1 | refine below_set ?_ GE425.out) | exact HB.out)⟩⟩
  ·replace c5 := Bool.eq_false_iff.mpr c5
   subst c5
   have H1 : ((first_Alike.f l0_0 l0_1).bind fun t427 => (stickfullaw15_FirstWide.j0 k (!t427) l0_0 l0_1 a0_2 a0_3 a0_4 a0_5)) = some r := by rw [if_neg (show ¬ (false = true) by decide)] at H; exact H
   clear H
   have H := H1
   clear H1
   replace H := Option.bind_eq_some_iff.mp H
   obtain ⟨t427, A80, H⟩ := H
   replace H : (stickfullaw15_FirstWide.j0 k (!t427) l0_0 l0_1 a0_2 a0_3 a0_4 a0_5) = some r := H
   have A8 := Aside0.mk A80
   clear A80
   have H' := Aside0.mk H
   clear H
   obtain ⟨hcz9_0, hcz9_1, hcz9_2, hcz9_3, hcz9_4, hcz9_5⟩ := cz6 BK425
   obtain ⟨hfz9_0, hfz9_1, hfz9_2, hfz9_3, hfz9_4, hfz9_5⟩ := fz6 BK425
   go_wp2_with (first | ((with_reducible refine gate_callee (f := 7) rfl ?_); refine goesB (some 10) rfl rfl Try.func7 #[.agg #[.slice A0_0 l0_0.length c0_0, .slice A0_1 l0_1.length c0_1, .int .i64 a0_2, .int .i64 a0_3, .int .i64 a0_4, .int .i64 a0_5]] rfl ?_; (with_reducible refine (stickfullaw15_great.calls _ _ l0_0 _ _ l0_1 a0_2 a0_3 a0_4 a0_5 false _ ?side1 ?side2 ?side3 ?side4 A4.out).mono ?_); (case side1 => repeat (first | exact (Kd.C_below HR0_0.out HB.out) | (with_reducible refine Kd.C_alloc ?_ _) | (with_reducible refine Kd.C_drewN ?_ _) | (with_reducible refine Kd.C_drew ?_))); (case side2 => exact HC0_0.out); (case side3 => repeat (first | exact (Kd.C_below HR0_1.out HB.out) | (with_reducible refine Kd.C_alloc ?_ _) | (with_reducible refine Kd.C_drewN ?_ _) | (with_reducible refine Kd.C_drew ?_))); (case side4 => exact HC0_1.out); rintro e w10 ⟨rfl, hb⟩; refine ⟨_, rfl, ?_⟩; replace BK425 := bb BK425 hb; replace HB := bh HB hb; (try clear hb); (try clear hb2); (try clear hk); (try clear hi); obtain ⟨hcz11_0, hcz11_1, hcz11_2, hcz11_3, hcz11_4, hcz11_5⟩ := cz6 BK425; obtain ⟨hfz11_0, hfz11_1, hfz11_2, hfz11_3, hfz11_4, hfz11_5⟩ := fz6 BK425) | (go_at_call 12; (with_reducible refine (first_Alike.calls _ _ l0_0 _ _ l0_1 t427 _ ?side1 ?side2 ?side3 ?side4 A8.out).mono ?_); (case side1 => repeat (first | exact (Kd.C_below HR0_0.out HB.out) | (with_reducible refine Kd.C_alloc ?_ _) | (with_reducible refine Kd.C_drewN ?_ _) | (with_reducible refine Kd.C_drew ?_))); (case side2 => exact HC0_0.out); (case side3 => repeat (first | exact (Kd.C_below HR0_1.out HB.out) | (with_reducible refine Kd.C_alloc ?_ _) | (with_reducible refine Kd.C_drewN ?_ _) | (with_reducible refine Kd.C_drew ?_))); (case side4 => exact HC0_1.out); rintro e w12 ⟨rfl, hb⟩; replace BK425 := bb BK425 hb; replace HB := bh HB hb; (try clear hb); (try clear hb2); (try clear hk); (try clear hi)))
   go_meet
   case rel => exact ⟨_, (!t427), (by first | rfl | (simp; done) | (simp [*]; done)), H', ⟨by first | omega | exact Nat.le_refl _⟩, ⟨by (with_reducible repeat (first | refine blk_drewN ?_ _ | refine blk_drew ?_ | refine blk_alloc ?_ _)); exact BK425.out⟩, ⟨by repeat (first | (with_reducible first | exact HB.out | apply below_alloc | apply pw_below_drewN | apply below_drew1 | refine below_set ?_ GE425.out) | exact HB.out)⟩⟩
 case rest =>
  clear HC2
  try clear p2
  try clear c5
  try clear c7
  try clear hcz11_0
  try clear hcz11_1
  try clear hcz11_2
  try clear hcz11_3
  try clear hcz11_4
  try clear hcz11_5
  try clear hcz6_0
  try clear hcz6_1
  try clear hcz6_2
  try clear hcz6_3
  try clear hcz6_4
  try clear hcz6_5
  try clear hcz9_0
  try clear hcz9_1
  try clear hcz9_2
  try clear hcz9_3
  try clear hcz9_4
  try clear hcz9_5
  try clear hfz11_0
  try clear hfz11_1
  try clear hfz11_2
  try clear hfz11_3
  try clear hfz11_4
  try clear hfz11_5
  try clear hfz6_0
  try clear hfz6_1
  try clear hfz6_2
  try clear hfz6_3
  try clear hfz6_4
  try clear hfz6_5
  try clear hfz9_0
  try clear hfz9_1
  try clear hfz9_2
  try clear hfz9_3
  try clear hfz9_4
  try clear hfz9_5
  obtain ⟨kq, x18_1, rfl, HA, HJ1, BK425, HB⟩ := hcut
  cases kq with
  | zero => exact absurd HA.out (by simp [stickfullaw15_FirstWide.j0])
  | succ kj1 =>
   have H := HA.out
   clear HA
   simp only [stickfullaw15_FirstWide.j0] at H
   by_cases c13 : x18_1 = true
   ·subst c13
    have H1 : ((stickfullaw15_head.f kj1).bind fun t428 => (some t428)) = some r := by rw [if_pos rfl] at H; exact H
    clear H
    have H := H1
    clear H1
    replace H := Option.bind_eq_some_iff.mp H
    obtain ⟨t428, A140, H⟩ := H
    replace H : (some t428) = some r := H
    have A14 := Aside0.mk A140
    clear A140
    obtain rfl := Option.some.inj H
    go_wp2_with (first | ((with_reducible refine gate_callee (f := 8) rfl ?_); refine goesB (some 19) rfl rfl Try.func8 #[] rfl ?_; (with_reducible refine (stickfullaw15_head.calls kj1  t428 _ A14.out).mono ?_); rintro e w15 ⟨rfl, hb⟩; refine ⟨_, rfl, ?_⟩; replace BK425 := bb BK425 hb; replace HB := bh HB hb; (try clear hb); (try clear hb2); (try clear hk); (try clear hi)))
    go_ret
    exact ⟨by first | rfl | (simp [errW_none, errW_some] <;> rfl) | (simp [*, errW_none, errW_some] <;> rfl), by repeat (first | (with_reducible first | exact HB.out | apply below_alloc | apply pw_below_drewN | apply below_drew1 | refine below_set ?_ GE425.out) | exact HB.out)⟩
   ·replace c13 := Bool.eq_false_iff.mpr c13
    subst c13
    have H1 : (stickfullaw15_FirstWide.l0 kj1 0 l0_0 l0_1 a0_2 a0_3 a0_4 a0_5) = some r := by rw [if_neg (show ¬ (false = true) by decide)] at H; exact H
    clear H
    have H := H1
    clear H1
    have H' := Aside0.mk H
    clear H
    go_wp2
    go_loopg [3] kj1 (fun kq v3 w' => ∃ (x3_2 : Int), v3 = .int .i64 x3_2 ∧ Aside0 (stickfullaw15_FirstWide.l0 kq x3_2 l0_0 l0_1 a0_2 a0_3 a0_4 a0_5 = some r) ∧ Aside0 (kq ≤ kj1) ∧ Aside0 (w'.heap[gb425]? = some (.cells #[(.slice A0_0 l0_0.length c0_0), (.slice A0_1 l0_1.length c0_1), .int .i64 a0_2, .int .i64 a0_3, .int .i64 a0_4, .int .i64 a0_5] 26 (0, 0))) ∧ Aside0 (Below w.heap.size w w'))
    case atStart => exact ⟨(0), (by first | rfl | (simp; done) | (simp [*]; done)), H', ⟨Nat.le_refl _⟩, ⟨by (with_reducible repeat (first | refine blk_drewN ?_ _ | refine blk_drew ?_ | refine blk_alloc ?_ _)); exact BK425.out⟩, ⟨by repeat (first | (with_reducible first | exact HB.out | apply below_alloc | apply pw_below_drewN | apply below_drew1 | refine below_set ?_ GE425.out) | exact HB.out)⟩⟩
    case round =>
     clear H'
     try clear c1
     try clear p2
     try clear c5
     try clear c7
     try clear c8
     try clear c13
     try clear hcz11_0
     try clear hcz11_1
     try clear hcz11_2
     try clear hcz11_3
     try clear hcz11_4
     try clear hcz11_5
     try clear hcz6_0
     try clear hcz6_1
     try clear hcz6_2
     try clear hcz6_3
     try clear hcz6_4
     try clear hcz6_5
     try clear hcz9_0
     try clear hcz9_1
     try clear hcz9_2
     try clear hcz9_3
     try clear hcz9_4
     try clear hcz9_5
     try clear hfz11_0
     try clear hfz11_1
     try clear hfz11_2
     try clear hfz11_3
     try clear hfz11_4
     try clear hfz11_5
     try clear hfz6_0
     try clear hfz6_1
     try clear hfz6_2
     try clear hfz6_3
     try clear hfz6_4
     try clear hfz6_5
     try clear hfz9_0
     try clear hfz9_1
     try clear hfz9_2
     try clear hfz9_3
     try clear hfz9_4
     try clear hfz9_5
     try clear p2
     obtain ⟨x3_2, rfl, HA, HK2, BK425, HB⟩ := hrel
     cases gk with
     | zero => exact absurd HA.out (by simp [stickfullaw15_FirstWide.l0])
     | succ k2 =>
      have H := HA.out
      clear HA
      simp only [stickfullaw15_FirstWide.l0] at H
      by_cases c16 : x3_2 < (l0_0.length : Int)
      ·rw [if_pos c16] at H
       have c16b0 : decide (x3_2 < (l0_0.length : Int)) = true := decide_eq_true c16
       clear c16
       by_cases c17 : 0 ≤ x3_2
       ·rw [if_pos c17] at H
        have c17b0 : decide (0 ≤ x3_2) = true := decide_eq_true c17
        clear c17
        by_cases c18 : ((rd_T46 l0_0 x3_2).f0) = 5
        ·rw [if_pos c18] at H
         have c18b0 : (((rd_T46 l0_0 x3_2).f0) == 5) = true := beq_iff_eq.mpr c18
         have c18b1 : (((rd_T46 l0_0 x3_2).f0) != 5) = false := bne_eq_false_iff_eq.mpr c18
         clear c18
         replace H := Option.bind_eq_some_iff.mp H
         obtain ⟨t431, A190, H⟩ := H
         replace H : (some t431) = some r := H
         have A19 := Aside0.mk A190
         clear A190
         obtain rfl := Option.some.inj H
         obtain ⟨hcz20_0, hcz20_1, hcz20_2, hcz20_3, hcz20_4, hcz20_5⟩ := cz6 BK425
         obtain ⟨hfz20_0, hfz20_1, hfz20_2, hfz20_3, hfz20_4, hfz20_5⟩ := fz6 BK425
         have p429 : 0 ≤ (x3_2 : Int) := of_decide_eq_true (by first | (with_reducible assumption) | assumption)
         have q429 : x3_2 < (l0_0.length : Int) := of_decide_eq_true (by first | (with_reducible assumption) | assumption)
         obtain ⟨ad429, e429, hx429_0, hx429_1, hx429_2, hx429_3, hx429_4, hx429_5⟩ := at_T46 HR0_0.out x3_2 p429 q429
         cases e429
         replace hx429_0 := (HB.out.cell (World.block_lt_of_cell? w _ hx429_0)).trans hx429_0
         replace hx429_1 := (HB.out.cell (World.block_lt_of_cell? w _ hx429_1)).trans hx429_1
         replace hx429_2 := (HB.out.cell (World.block_lt_of_cell? w _ hx429_2)).trans hx429_2
         replace hx429_3 := (HB.out.cell (World.block_lt_of_cell? w _ hx429_3)).trans hx429_3
         replace hx429_4 := (HB.out.cell (World.block_lt_of_cell? w _ hx429_4)).trans hx429_4
         replace hx429_5 := (HB.out.cell (World.block_lt_of_cell? w _ hx429_5)).trans hx429_5
         replace p429 := eq_true p429
         replace q429 := eq_true q429
         go_wp2_with (first | ((with_reducible refine gate_dst (N := 4) rfl ?_); (try (refine gate_guard (by rfl) ?_; dsimp only)); refine box_event ?hg (N := 4) ?hd (cs := #[.int .u8 0, .int .i64 0, .int .i64 0, .int .i64 0, .bool false, .bool false]) (t := 46) ?hr ?_; (case hd => rfl); (case hg => rfl); (case hr => first | (go_simp; done) | (go_simp; rfl)); intro gb430 hg w21 hbox hb; have BK430 := Aside0.mk (hbox); have GW430 := bge HB hg; have GE430 := bge HB hg; replace HB := bh HB hb; have NB425_430 := nbl BK425 hg; have NB430_425 := nbg BK425 hg; replace BK425 := bb BK425 hb; clear hb hbox hg; have hnb22 := NB430_425.out; have hnc22 := NB425_430.out; obtain ⟨hcz23_0, hcz23_1, hcz23_2, hcz23_3, hcz23_4, hcz23_5⟩ := cz6 BK430; obtain ⟨hfz23_0, hfz23_1, hfz23_2, hfz23_3, hfz23_4, hfz23_5⟩ := fz6 BK430) | ((with_reducible refine gate_callee (f := 8) rfl ?_); refine goesB (some 54) rfl rfl Try.func8 #[] rfl ?_; (with_reducible refine (stickfullaw15_head.calls k2  t431 _ A19.out).mono ?_); rintro e w24 ⟨rfl, hb⟩; refine ⟨_, rfl, ?_⟩; replace BK425 := bb BK425 hb; replace BK430 := Aside0.mk (blk_below (o := .cells #[.int .u8 ((rd_T46 l0_0 x3_2).f0), .int .i64 ((rd_T46 l0_0 x3_2).f1), .int .i64 ((rd_T46 l0_0 x3_2).f2), .int .i64 ((rd_T46 l0_0 x3_2).f3), .bool ((rd_T46 l0_0 x3_2).f4), .bool ((rd_T46 l0_0 x3_2).f5)] 46 (0, 0)) (bp BK430) hb); replace HB := bh HB hb; (try clear hb); (try clear hb2); (try clear hk); (try clear hi)))
         go_ret
         exact ⟨by first | rfl | (simp [errW_none, errW_some] <;> rfl) | (simp [*, errW_none, errW_some] <;> rfl), by repeat (first | (with_reducible first | exact HB.out | apply below_alloc | apply pw_below_drewN | apply below_drew1 | refine below_set ?_ GE425.out | refine below_set ?_ GE430.out) | exact HB.out)⟩
        ·rw [if_neg c18] at H
         have c18b0 : (((rd_T46 l0_0 x3_2).f0) == 5) = false := beq_eq_false_iff_ne.mpr c18
         have c18b1 : (((rd_T46 l0_0 x3_2).f0) != 5) = true := bne_iff_ne.mpr c18
         by_cases c25 : ((rd_T46 l0_0 x3_2).f3) < 0
         ·rw [if_pos c25] at H
          have c25b0 : decide (((rd_T46 l0_0 x3_2).f3) < 0) = true := decide_eq_true c25
          clear c25
          replace H := Option.bind_eq_some_iff.mp H
          obtain ⟨t432, A260, H⟩ := H
          replace H : (some t432) = some r := H
          have A26 := Aside0.mk A260
          clear A260
          obtain rfl := Option.some.inj H
          obtain ⟨hcz27_0, hcz27_1, hcz27_2, hcz27_3, hcz27_4, hcz27_5⟩ := cz6 BK425
          obtain ⟨hfz27_0, hfz27_1, hfz27_2, hfz27_3, hfz27_4, hfz27_5⟩ := fz6 BK425
          have p429 : 0 ≤ (x3_2 : Int) := of_decide_eq_true (by first | (with_reducible assumption) | assumption)
          have q429 : x3_2 < (l0_0.length : Int) := of_decide_eq_true (by first | (with_reducible assumption) | assumption)
          obtain ⟨ad429, e429, hx429_0, hx429_1, hx429_2, hx429_3, hx429_4, hx429_5⟩ := at_T46 HR0_0.out x3_2 p429 q429
          cases e429
          replace hx429_0 := (HB.out.cell (World.block_lt_of_cell? w _ hx429_0)).trans hx429_0
          replace hx429_1 := (HB.out.cell (World.block_lt_of_cell? w _ hx429_1)).trans hx429_1
          replace hx429_2 := (HB.out.cell (World.block_lt_of_cell? w _ hx429_2)).trans hx429_2
          replace hx429_3 := (HB.out.cell (World.block_lt_of_cell? w _ hx429_3)).trans hx429_3
          replace hx429_4 := (HB.out.cell (World.block_lt_of_cell? w _ hx429_4)).trans hx429_4
          replace hx429_5 := (HB.out.cell (World.block_lt_of_cell? w _ hx429_5)).trans hx429_5
          replace p429 := eq_true p429
          replace q429 := eq_true q429
          go_wp2_with (first | ((with_reducible refine gate_dst (N := 4) rfl ?_); (try (refine gate_guard (by rfl) ?_; dsimp only)); refine box_event ?hg (N := 4) ?hd (cs := #[.int .u8 0, .int .i64 0, .int .i64 0, .int .i64 0, .bool false, .bool false]) (t := 46) ?hr ?_; (case hd => rfl); (case hg => rfl); (case hr => first | (go_simp; done) | (go_simp; rfl)); intro gb430 hg w28 hbox hb; have BK430 := Aside0.mk (hbox); have GW430 := bge HB hg; have GE430 := bge HB hg; replace HB := bh HB hb; have NB425_430 := nbl BK425 hg; have NB430_425 := nbg BK425 hg; replace BK425 := bb BK425 hb; clear hb hbox hg; have hnb29 := NB430_425.out; have hnc29 := NB425_430.out; obtain ⟨hcz30_0, hcz30_1, hcz30_2, hcz30_3, hcz30_4, hcz30_5⟩ := cz6 BK430; obtain ⟨hfz30_0, hfz30_1, hfz30_2, hfz30_3, hfz30_4, hfz30_5⟩ := fz6 BK430) | ((with_reducible refine gate_callee (f := 8) rfl ?_); refine goesB (some 54) rfl rfl Try.func8 #[] rfl ?_; (with_reducible refine (stickfullaw15_head.calls k2  t432 _ A26.out).mono ?_); rintro e w31 ⟨rfl, hb⟩; refine ⟨_, rfl, ?_⟩; replace BK425 := bb BK425 hb; replace BK430 := Aside0.mk (blk_below (o := .cells #[.int .u8 ((rd_T46 l0_0 x3_2).f0), .int .i64 ((rd_T46 l0_0 x3_2).f1), .int .i64 ((rd_T46 l0_0 x3_2).f2), .int .i64 ((rd_T46 l0_0 x3_2).f3), .bool ((rd_T46 l0_0 x3_2).f4), .bool ((rd_T46 l0_0 x3_2).f5)] 46 (0, 0)) (bp BK430) hb); replace HB := bh HB hb; (try clear hb); (try clear hb2); (try clear hk); (try clear hi)))
          go_ret
          exact ⟨by first | rfl | (simp [errW_none, errW_some] <;> rfl) | (simp [*, errW_none, errW_some] <;> rfl), by repeat (first | (with_reducible first | exact HB.out | apply below_alloc | apply pw_below_drewN | apply below_drew1 | refine below_set ?_ GE425.out | refine below_set ?_ GE430.out) | exact HB.out)⟩
         ·rw [if_neg c25] at H
          have c25b0 : decide (((rd_T46 l0_0 x3_2).f3) < 0) = false := decide_eq_false c25
          clear c25
          by_cases c32 : ((rd_T46 l0_0 x3_2).f3) > 1099511627776
          ·rw [if_pos c32] at H
           have c32b0 : decide (1099511627776 < ((rd_T46 l0_0 x3_2).f3)) = true := decide_eq_true c32
           clear c32
           replace H := Option.bind_eq_some_iff.mp H
           obtain ⟨t433, A330, H⟩ := H
           replace H : (some t433) = some r := H
           have A33 := Aside0.mk A330
           clear A330
           obtain rfl := Option.some.inj H
           obtain ⟨hcz34_0, hcz34_1, hcz34_2, hcz34_3, hcz34_4, hcz34_5⟩ := cz6 BK425
           obtain ⟨hfz34_0, hfz34_1, hfz34_2, hfz34_3, hfz34_4, hfz34_5⟩ := fz6 BK425
           have p429 : 0 ≤ (x3_2 : Int) := of_decide_eq_true (by first | (with_reducible assumption) | assumption)
           have q429 : x3_2 < (l0_0.length : Int) := of_decide_eq_true (by first | (with_reducible assumption) | assumption)
           obtain ⟨ad429, e429, hx429_0, hx429_1, hx429_2, hx429_3, hx429_4, hx429_5⟩ := at_T46 HR0_0.out x3_2 p429 q429
           cases e429
           replace hx429_0 := (HB.out.cell (World.block_lt_of_cell? w _ hx429_0)).trans hx429_0
           replace hx429_1 := (HB.out.cell (World.block_lt_of_cell? w _ hx429_1)).trans hx429_1
           replace hx429_2 := (HB.out.cell (World.block_lt_of_cell? w _ hx429_2)).trans hx429_2
           replace hx429_3 := (HB.out.cell (World.block_lt_of_cell? w _ hx429_3)).trans hx429_3
           replace hx429_4 := (HB.out.cell (World.block_lt_of_cell? w _ hx429_4)).trans hx429_4
           replace hx429_5 := (HB.out.cell (World.block_lt_of_cell? w _ hx429_5)).trans hx429_5
           replace p429 := eq_true p429
           replace q429 := eq_true q429
           go_wp2_with (first | ((with_reducible refine gate_dst (N := 4) rfl ?_); (try (refine gate_guard (by rfl) ?_; dsimp only)); refine box_event ?hg (N := 4) ?hd (cs := #[.int .u8 0, .int .i64 0, .int .i64 0, .int .i64 0, .bool false, .bool false]) (t := 46) ?hr ?_; (case hd => rfl); (case hg => rfl); (case hr => first | (go_simp; done) | (go_simp; rfl)); intro gb430 hg w35 hbox hb; have BK430 := Aside0.mk (hbox); have GW430 := bge HB hg; have GE430 := bge HB hg; replace HB := bh HB hb; have NB425_430 := nbl BK425 hg; have NB430_425 := nbg BK425 hg; replace BK425 := bb BK425 hb; clear hb hbox hg; have hnb36 := NB430_425.out; have hnc36 := NB425_430.out; obtain ⟨hcz37_0, hcz37_1, hcz37_2, hcz37_3, hcz37_4, hcz37_5⟩ := cz6 BK430; obtain ⟨hfz37_0, hfz37_1, hfz37_2, hfz37_3, hfz37_4, hfz37_5⟩ := fz6 BK430) | ((with_reducible refine gate_callee (f := 8) rfl ?_); refine goesB (some 54) rfl rfl Try.func8 #[] rfl ?_; (with_reducible refine (stickfullaw15_head.calls k2  t433 _ A33.out).mono ?_); rintro e w38 ⟨rfl, hb⟩; refine ⟨_, rfl, ?_⟩; replace BK425 := bb BK425 hb; replace BK430 := Aside0.mk (blk_below (o := .cells #[.int .u8 ((rd_T46 l0_0 x3_2).f0), .int .i64 ((rd_T46 l0_0 x3_2).f1), .int .i64 ((rd_T46 l0_0 x3_2).f2), .int .i64 ((rd_T46 l0_0 x3_2).f3), .bool ((rd_T46 l0_0 x3_2).f4), .bool ((rd_T46 l0_0 x3_2).f5)] 46 (0, 0)) (bp BK430) hb); replace HB := bh HB hb; (try clear hb); (try clear hb2); (try clear hk); (try clear hi)))
           go_ret
           exact ⟨by first | rfl | (simp [errW_none, errW_some] <;> rfl) | (simp [*, errW_none, errW_some] <;> rfl), by repeat (first | (with_reducible first | exact HB.out | apply below_alloc | apply pw_below_drewN | apply below_drew1 | refine below_set ?_ GE425.out | refine below_set ?_ GE430.out) | exact HB.out)⟩
          ·rw [if_neg c32] at H
           have c32b0 : decide (1099511627776 < ((rd_T46 l0_0 x3_2).f3)) = false := decide_eq_false c32
           clear c32
           by_cases c39 : x3_2 < (l0_1.length : Int)
           ·rw [if_pos c39] at H
            have c39b0 : decide (x3_2 < (l0_1.length : Int)) = true := decide_eq_true c39
            clear c39
            by_cases c40 : ((rd_T46 l0_1 x3_2).f3) < 0
            ·rw [if_pos c40] at H
             have c40b0 : decide (((rd_T46 l0_1 x3_2).f3) < 0) = true := decide_eq_true c40
             clear c40
             replace H := Option.bind_eq_some_iff.mp H
             obtain ⟨t435, A410, H⟩ := H
             replace H : (some t435) = some r := H
             have A41 := Aside0.mk A410
             clear A410
             obtain rfl := Option.some.inj H
             obtain ⟨hcz42_0, hcz42_1, hcz42_2, hcz42_3, hcz42_4, hcz42_5⟩ := cz6 BK425
             obtain ⟨hfz42_0, hfz42_1, hfz42_2, hfz42_3, hfz42_4, hfz42_5⟩ := fz6 BK425
             have p429 : 0 ≤ (x3_2 : Int) := of_decide_eq_true (by first | (with_reducible assumption) | assumption)
             have q429 : x3_2 < (l0_0.length : Int) := of_decide_eq_true (by first | (with_reducible assumption) | assumption)
             obtain ⟨ad429, e429, hx429_0, hx429_1, hx429_2, hx429_3, hx429_4, hx429_5⟩ := at_T46 HR0_0.out x3_2 p429 q429
             cases e429
             replace hx429_0 := (HB.out.cell (World.block_lt_of_cell? w _ hx429_0)).trans hx429_0
             replace hx429_1 := (HB.out.cell (World.block_lt_of_cell? w _ hx429_1)).trans hx429_1
             replace hx429_2 := (HB.out.cell (World.block_lt_of_cell? w _ hx429_2)).trans hx429_2
             replace hx429_3 := (HB.out.cell (World.block_lt_of_cell? w _ hx429_3)).trans hx429_3
             replace hx429_4 := (HB.out.cell (World.block_lt_of_cell? w _ hx429_4)).trans hx429_4
             replace hx429_5 := (HB.out.cell (World.block_lt_of_cell? w _ hx429_5)).trans hx429_5
             replace p429 := eq_true p429
             replace q429 := eq_true q429
             go_wp2_with (first | ((with_reducible refine gate_dst (N := 4) rfl ?_); (try (refine gate_guard (by rfl) ?_; dsimp only)); refine box_event ?hg (N := 4) ?hd (cs := #[.int .u8 0, .int .i64 0, .int .i64 0, .int .i64 0, .bool false, .bool false]) (t := 46) ?hr ?_; (case hd => rfl); (case hg => rfl); (case hr => first | (go_simp; done) | (go_simp; rfl)); intro gb430 hg w43 hbox hb; have BK430 := Aside0.mk (hbox); have GW430 := bge HB hg; have GE430 := bge HB hg; replace HB := bh HB hb; have NB425_430 := nbl BK425 hg; have NB430_425 := nbg BK425 hg; replace BK425 := bb BK425 hb; clear hb hbox hg; have hnb44 := NB430_425.out; have hnc44 := NB425_430.out; obtain ⟨hcz45_0, hcz45_1, hcz45_2, hcz45_3, hcz45_4, hcz45_5⟩ := cz6 BK430; obtain ⟨hfz45_0, hfz45_1, hfz45_2, hfz45_3, hfz45_4, hfz45_5⟩ := fz6 BK430; obtain ⟨hcz46_0, hcz46_1, hcz46_2, hcz46_3, hcz46_4, hcz46_5⟩ := cz6 BK425; obtain ⟨hfz46_0, hfz46_1, hfz46_2, hfz46_3, hfz46_4, hfz46_5⟩ := fz6 BK425; have p434 : 0 ≤ (x3_2 : Int) := of_decide_eq_true (by first | (with_reducible assumption) | assumption); have q434 : x3_2 < (l0_1.length : Int) := of_decide_eq_true (by first | (with_reducible assumption) | assumption); obtain ⟨ad434, e434, hx434_0, hx434_1, hx434_2, hx434_3, hx434_4, hx434_5⟩ := at_T46 HR0_1.out x3_2 p434 q434; cases e434; have hn434_0 : ad434.block ≠ gb430 := Nat.ne_of_lt (Nat.lt_of_lt_of_le (by have := World.block_lt_of_cell? _ _ hx434_0; first | rwa [add_block] at this | exact this) GW430.out); have hn434_1 : ad434.block ≠ gb430 := Nat.ne_of_lt (Nat.lt_of_lt_of_le (by have := World.block_lt_of_cell? _ _ hx434_0; first | rwa [add_block] at this | exact this) GW430.out); have hn434_2 : ad434.block ≠ gb430 := Nat.ne_of_lt (Nat.lt_of_lt_of_le (by have := World.block_lt_of_cell? _ _ hx434_0; first | rwa [add_block] at this | exact this) GW430.out); have hn434_3 : ad434.block ≠ gb430 := Nat.ne_of_lt (Nat.lt_of_lt_of_le (by have := World.block_lt_of_cell? _ _ hx434_0; first | rwa [add_block] at this | exact this) GW430.out); have hn434_4 : ad434.block ≠ gb430 := Nat.ne_of_lt (Nat.lt_of_lt_of_le (by have := World.block_lt_of_cell? _ _ hx434_0; first | rwa [add_block] at this | exact this) GW430.out); have hn434_5 : ad434.block ≠ gb430 := Nat.ne_of_lt (Nat.lt_of_lt_of_le (by have := World.block_lt_of_cell? _ _ hx434_0; first | rwa [add_block] at this | exact this) GW430.out); replace hx434_0 := (HB.out.cell (World.block_lt_of_cell? w _ hx434_0)).trans hx434_0; replace hx434_1 := (HB.out.cell (World.block_lt_of_cell? w _ hx434_1)).trans hx434_1; replace hx434_2 := (HB.out.cell (World.block_lt_of_cell? w _ hx434_2)).trans hx434_2; replace hx434_3 := (HB.out.cell (World.block_lt_of_cell? w _ hx434_3)).trans hx434_3; replace hx434_4 := (HB.out.cell (World.block_lt_of_cell? w _ hx434_4)).trans hx434_4; replace hx434_5 := (HB.out.cell (World.block_lt_of_cell? w _ hx434_5)).trans hx434_5; replace hx434_0 := (cell_far (p := ⟨gb430, 0, none⟩) (by first | (rw [add_block]; exact hn434_0) | (show (Addr.add _ _).block ≠ _; rw [add_block]; exact hn434_0) | exact hn434_0) (.int .u8 ((rd_T46 l0_0 x3_2).f0))).trans hx434_0; replace hx434_1 := (cell_far (p := ⟨gb430, 0, none⟩) (by first | (rw [add_block]; exact hn434_0) | (show (Addr.add _ _).block ≠ _; rw [add_block]; exact hn434_0) | exact hn434_0) (.int .u8 ((rd_T46 l0_0 x3_2).f0))).trans hx434_1; replace hx434_2 := (cell_far (p := ⟨gb430, 0, none⟩) (by first | (rw [add_block]; exact hn434_0) | (show (Addr.add _ _).block ≠ _; rw [add_block]; exact hn434_0) | exact hn434_0) (.int .u8 ((rd_T46 l0_0 x3_2).f0))).trans hx434_2; replace hx434_3 := (cell_far (p := ⟨gb430, 0, none⟩) (by first | (rw [add_block]; exact hn434_0) | (show (Addr.add _ _).block ≠ _; rw [add_block]; exact hn434_0) | exact hn434_0) (.int .u8 ((rd_T46 l0_0 x3_2).f0))).trans hx434_3; replace hx434_4 := (cell_far (p := ⟨gb430, 0, none⟩) (by first | (rw [add_block]; exact hn434_0) | (show (Addr.add _ _).block ≠ _; rw [add_block]; exact hn434_0) | exact hn434_0) (.int .u8 ((rd_T46 l0_0 x3_2).f0))).trans hx434_4; replace hx434_5 := (cell_far (p := ⟨gb430, 0, none⟩) (by first | (rw [add_block]; exact hn434_0) | (show (Addr.add _ _).block ≠ _; rw [add_block]; exact hn434_0) | exact hn434_0) (.int .u8 ((rd_T46 l0_0 x3_2).f0))).trans hx434_5; replace hx434_0 := (cell_far (p := ⟨gb430, 1, none⟩) (by first | (rw [add_block]; exact hn434_1) | (show (Addr.add _ _).block ≠ _; rw [add_block]; exact hn434_1) | exact hn434_1) (.int .i64 ((rd_T46 l0_0 x3_2).f1))).trans hx434_0; replace hx434_1 := (cell_far (p := ⟨gb430, 1, none⟩) (by first | (rw [add_block]; exact hn434_1) | (show (Addr.add _ _).block ≠ _; rw [add_block]; exact hn434_1) | exact hn434_1) (.int .i64 ((rd_T46 l0_0 x3_2).f1))).trans hx434_1; replace hx434_2 := (cell_far (p := ⟨gb430, 1, none⟩) (by first | (rw [add_block]; exact hn434_1) | (show (Addr.add _ _).block ≠ _; rw [add_block]; exact hn434_1) | exact hn434_1) (.int .i64 ((rd_T46 l0_0 x3_2).f1))).trans hx434_2; replace hx434_3 := (cell_far (p := ⟨gb430, 1, none⟩) (by first | (rw [add_block]; exact hn434_1) | (show (Addr.add _ _).block ≠ _; rw [add_block]; exact hn434_1) | exact hn434_1) (.int .i64 ((rd_T46 l0_0 x3_2).f1))).trans hx434_3; replace hx434_4 := (cell_far (p := ⟨gb430, 1, none⟩) (by first | (rw [add_block]; exact hn434_1) | (show (Addr.add _ _).block ≠ _; rw [add_block]; exact hn434_1) | exact hn434_1) (.int .i64 ((rd_T46 l0_0 x3_2).f1))).trans hx434_4; replace hx434_5 := (cell_far (p := ⟨gb430, 1, none⟩) (by first | (rw [add_block]; exact hn434_1) | (show (Addr.add _ _).block ≠ _; rw [add_block]; exact hn434_1) | exact hn434_1) (.int .i64 ((rd_T46 l0_0 x3_2).f1))).trans hx434_5; replace hx434_0 := (cell_far (p := ⟨gb430, 2, none⟩) (by first | (rw [add_block]; exact hn434_2) | (show (Addr.add _ _).block ≠ _; rw [add_block]; exact hn434_2) | exact hn434_2) (.int .i64 ((rd_T46 l0_0 x3_2).f2))).trans hx434_0; replace hx434_1 := (cell_far (p := ⟨gb430, 2, none⟩) (by first | (rw [add_block]; exact hn434_2) | (show (Addr.add _ _).block ≠ _; rw [add_block]; exact hn434_2) | exact hn434_2) (.int .i64 ((rd_T46 l0_0 x3_2).f2))).trans hx434_1; replace hx434_2 := (cell_far (p := ⟨gb430, 2, none⟩) (by first | (rw [add_block]; exact hn434_2) | (show (Addr.add _ _).block ≠ _; rw [add_block]; exact hn434_2) | exact hn434_2) (.int .i64 ((rd_T46 l0_0 x3_2).f2))).trans hx434_2; replace hx434_3 := (cell_far (p := ⟨gb430, 2, none⟩) (by first | (rw [add_block]; exact hn434_2) | (show (Addr.add _ _).block ≠ _; rw [add_block]; exact hn434_2) | exact hn434_2) (.int .i64 ((rd_T46 l0_0 x3_2).f2))).trans hx434_3; replace hx434_4 := (cell_far (p := ⟨gb430, 2, none⟩) (by first | (rw [add_block]; exact hn434_2) | (show (Addr.add _ _).block ≠ _; rw [add_block]; exact hn434_2) | exact hn434_2) (.int .i64 ((rd_T46 l0_0 x3_2).f2))).trans hx434_4; replace hx434_5 := (cell_far (p := ⟨gb430, 2, none⟩) (by first | (rw [add_block]; exact hn434_2) | (show (Addr.add _ _).block ≠ _; rw [add_block]; exact hn434_2) | exact hn434_2) (.int .i64 ((rd_T46 l0_0 x3_2).f2))).trans hx434_5; replace hx434_0 := (cell_far (p := ⟨gb430, 3, none⟩) (by first | (rw [add_block]; exact hn434_3) | (show (Addr.add _ _).block ≠ _; rw [add_block]; exact hn434_3) | exact hn434_3) (.int .i64 ((rd_T46 l0_0 x3_2).f3))).trans hx434_0; replace hx434_1 := (cell_far (p := ⟨gb430, 3, none⟩) (by first | (rw [add_block]; exact hn434_3) | (show (Addr.add _ _).block ≠ _; rw [add_block]; exact hn434_3) | exact hn434_3) (.int .i64 ((rd_T46 l0_0 x3_2).f3))).trans hx434_1; replace hx434_2 := (cell_far (p := ⟨gb430, 3, none⟩) (by first | (rw [add_block]; exact hn434_3) | (show (Addr.add _ _).block ≠ _; rw [add_block]; exact hn434_3) | exact hn434_3) (.int .i64 ((rd_T46 l0_0 x3_2).f3))).trans hx434_2; replace hx434_3 := (cell_far (p := ⟨gb430, 3, none⟩) (by first | (rw [add_block]; exact hn434_3) | (show (Addr.add _ _).block ≠ _; rw [add_block]; exact hn434_3) | exact hn434_3) (.int .i64 ((rd_T46 l0_0 x3_2).f3))).trans hx434_3; replace hx434_4 := (cell_far (p := ⟨gb430, 3, none⟩) (by first | (rw [add_block]; exact hn434_3) | (show (Addr.add _ _).block ≠ _; rw [add_block]; exact hn434_3) | exact hn434_3) (.int .i64 ((rd_T46 l0_0 x3_2).f3))).trans hx434_4; replace hx434_5 := (cell_far (p := ⟨gb430, 3, none⟩) (by first | (rw [add_block]; exact hn434_3) | (show (Addr.add _ _).block ≠ _; rw [add_block]; exact hn434_3) | exact hn434_3) (.int .i64 ((rd_T46 l0_0 x3_2).f3))).trans hx434_5; replace hx434_0 := (cell_far (p := ⟨gb430, 4, none⟩) (by first | (rw [add_block]; exact hn434_4) | (show (Addr.add _ _).block ≠ _; rw [add_block]; exact hn434_4) | exact hn434_4) (.bool ((rd_T46 l0_0 x3_2).f4))).trans hx434_0; replace hx434_1 := (cell_far (p := ⟨gb430, 4, none⟩) (by first | (rw [add_block]; exact hn434_4) | (show (Addr.add _ _).block ≠ _; rw [add_block]; exact hn434_4) | exact hn434_4) (.bool ((rd_T46 l0_0 x3_2).f4))).trans hx434_1; replace hx434_2 := (cell_far (p := ⟨gb430, 4, none⟩) (by first | (rw [add_block]; exact hn434_4) | (show (Addr.add _ _).block ≠ _; rw [add_block]; exact hn434_4) | exact hn434_4) (.bool ((rd_T46 l0_0 x3_2).f4))).trans hx434_2; replace hx434_3 := (cell_far (p := ⟨gb430, 4, none⟩) (by first | (rw [add_block]; exact hn434_4) | (show (Addr.add _ _).block ≠ _; rw [add_block]; exact hn434_4) | exact hn434_4) (.bool ((rd_T46 l0_0 x3_2).f4))).trans hx434_3; replace hx434_4 := (cell_far (p := ⟨gb430, 4, none⟩) (by first | (rw [add_block]; exact hn434_4) | (show (Addr.add _ _).block ≠ _; rw [add_block]; exact hn434_4) | exact hn434_4) (.bool ((rd_T46 l0_0 x3_2).f4))).trans hx434_4; replace hx434_5 := (cell_far (p := ⟨gb430, 4, none⟩) (by first | (rw [add_block]; exact hn434_4) | (show (Addr.add _ _).block ≠ _; rw [add_block]; exact hn434_4) | exact hn434_4) (.bool ((rd_T46 l0_0 x3_2).f4))).trans hx434_5; replace hx434_0 := (cell_far (p := ⟨gb430, 5, none⟩) (by first | (rw [add_block]; exact hn434_5) | (show (Addr.add _ _).block ≠ _; rw [add_block]; exact hn434_5) | exact hn434_5) (.bool ((rd_T46 l0_0 x3_2).f5))).trans hx434_0; replace hx434_1 := (cell_far (p := ⟨gb430, 5, none⟩) (by first | (rw [add_block]; exact hn434_5) | (show (Addr.add _ _).block ≠ _; rw [add_block]; exact hn434_5) | exact hn434_5) (.bool ((rd_T46 l0_0 x3_2).f5))).trans hx434_1; replace hx434_2 := (cell_far (p := ⟨gb430, 5, none⟩) (by first | (rw [add_block]; exact hn434_5) | (show (Addr.add _ _).block ≠ _; rw [add_block]; exact hn434_5) | exact hn434_5) (.bool ((rd_T46 l0_0 x3_2).f5))).trans hx434_2; replace hx434_3 := (cell_far (p := ⟨gb430, 5, none⟩) (by first | (rw [add_block]; exact hn434_5) | (show (Addr.add _ _).block ≠ _; rw [add_block]; exact hn434_5) | exact hn434_5) (.bool ((rd_T46 l0_0 x3_2).f5))).trans hx434_3; replace hx434_4 := (cell_far (p := ⟨gb430, 5, none⟩) (by first | (rw [add_block]; exact hn434_5) | (show (Addr.add _ _).block ≠ _; rw [add_block]; exact hn434_5) | exact hn434_5) (.bool ((rd_T46 l0_0 x3_2).f5))).trans hx434_4; replace hx434_5 := (cell_far (p := ⟨gb430, 5, none⟩) (by first | (rw [add_block]; exact hn434_5) | (show (Addr.add _ _).block ≠ _; rw [add_block]; exact hn434_5) | exact hn434_5) (.bool ((rd_T46 l0_0 x3_2).f5))).trans hx434_5; clear hn434_0; clear hn434_1; clear hn434_2; clear hn434_3; clear hn434_4; clear hn434_5; replace p434 := eq_true p434; replace q434 := eq_true q434) | ((with_reducible refine gate_callee (f := 8) rfl ?_); refine goesB (some 54) rfl rfl Try.func8 #[] rfl ?_; (with_reducible refine (stickfullaw15_head.calls k2  t435 _ A41.out).mono ?_); rintro e w47 ⟨rfl, hb⟩; refine ⟨_, rfl, ?_⟩; replace BK425 := bb BK425 hb; replace BK430 := Aside0.mk (blk_below (o := .cells #[.int .u8 ((rd_T46 l0_0 x3_2).f0), .int .i64 ((rd_T46 l0_0 x3_2).f1), .int .i64 ((rd_T46 l0_0 x3_2).f2), .int .i64 ((rd_T46 l0_0 x3_2).f3), .bool ((rd_T46 l0_0 x3_2).f4), .bool ((rd_T46 l0_0 x3_2).f5)] 46 (0, 0)) (bp BK430) hb); replace HB := bh HB hb; (try clear hb); (try clear hb2); (try clear hk); (try clear hi)))
             go_ret
             exact ⟨by first | rfl | (simp [errW_none, errW_some] <;> rfl) | (simp [*, errW_none, errW_some] <;> rfl), by repeat (first | (with_reducible first | exact HB.out | apply below_alloc | apply pw_below_drewN | apply below_drew1 | refine below_set ?_ GE425.out | refine below_set ?_ GE430.out) | exact HB.out)⟩
            ·rw [if_neg c40] at H
             have c40b0 : decide (((rd_T46 l0_1 x3_2).f3) < 0) = false := decide_eq_false c40
             clear c40
             have H' := Aside0.mk H
             clear H
             obtain ⟨hcz48_0, hcz48_1, hcz48_2, hcz48_3, hcz48_4, hcz48_5⟩ := cz6 BK425
             obtain ⟨hfz48_0, hfz48_1, hfz48_2, hfz48_3, hfz48_4, hfz48_5⟩ := fz6 BK425
             have p429 : 0 ≤ (x3_2 : Int) := of_decide_eq_true (by first | (with_reducible assumption) | assumption)
             have q429 : x3_2 < (l0_0.length : Int) := of_decide_eq_true (by first | (with_reducible assumption) | assumption)
             obtain ⟨ad429, e429, hx429_0, hx429_1, hx429_2, hx429_3, hx429_4, hx429_5⟩ := at_T46 HR0_0.out x3_2 p429 q429
             cases e429
             replace hx429_0 := (HB.out.cell (World.block_lt_of_cell? w _ hx429_0)).trans hx429_0
             replace hx429_1 := (HB.out.cell (World.block_lt_of_cell? w _ hx429_1)).trans hx429_1
             replace hx429_2 := (HB.out.cell (World.block_lt_of_cell? w _ hx429_2)).trans hx429_2
             replace hx429_3 := (HB.out.cell (World.block_lt_of_cell? w _ hx429_3)).trans hx429_3
             replace hx429_4 := (HB.out.cell (World.block_lt_of_cell? w _ hx429_4)).trans hx429_4
             replace hx429_5 := (HB.out.cell (World.block_lt_of_cell? w _ hx429_5)).trans hx429_5
             replace p429 := eq_true p429
             replace q429 := eq_true q429
             go_wp2_with (first | ((with_reducible refine gate_dst (N := 4) rfl ?_); (try (refine gate_guard (by rfl) ?_; dsimp only)); refine box_event ?hg (N := 4) ?hd (cs := #[.int .u8 0, .int .i64 0, .int .i64 0, .int .i64 0, .bool false, .bool false]) (t := 46) ?hr ?_; (case hd => rfl); (case hg => rfl); (case hr => first | (go_simp; done) | (go_simp; rfl)); intro gb430 hg w49 hbox hb; have BK430 := Aside0.mk (hbox); have GW430 := bge HB hg; have GE430 := bge HB hg; replace HB := bh HB hb; have NB425_430 := nbl BK425 hg; have NB430_425 := nbg BK425 hg; replace BK425 := bb BK425 hb; clear hb hbox hg; have hnb50 := NB430_425.out; have hnc50 := NB425_430.out; obtain ⟨hcz51_0, hcz51_1, hcz51_2, hcz51_3, hcz51_4, hcz51_5⟩ := cz6 BK430; obtain ⟨hfz51_0, hfz51_1, hfz51_2, hfz51_3, hfz51_4, hfz51_5⟩ := fz6 BK430; obtain ⟨hcz52_0, hcz52_1, hcz52_2, hcz52_3, hcz52_4, hcz52_5⟩ := cz6 BK425; obtain ⟨hfz52_0, hfz52_1, hfz52_2, hfz52_3, hfz52_4, hfz52_5⟩ := fz6 BK425; have p434 : 0 ≤ (x3_2 : Int) := of_decide_eq_true (by first | (with_reducible assumption) | assumption); have q434 : x3_2 < (l0_1.length : Int) := of_decide_eq_true (by first | (with_reducible assumption) | assumption); obtain ⟨ad434, e434, hx434_0, hx434_1, hx434_2, hx434_3, hx434_4, hx434_5⟩ := at_T46 HR0_1.out x3_2 p434 q434; cases e434; have hn434_0 : ad434.block ≠ gb430 := Nat.ne_of_lt (Nat.lt_of_lt_of_le (by have := World.block_lt_of_cell? _ _ hx434_0; first | rwa [add_block] at this | exact this) GW430.out); have hn434_1 : ad434.block ≠ gb430 := Nat.ne_of_lt (Nat.lt_of_lt_of_le (by have := World.block_lt_of_cell? _ _ hx434_0; first | rwa [add_block] at this | exact this) GW430.out); have hn434_2 : ad434.block ≠ gb430 := Nat.ne_of_lt (Nat.lt_of_lt_of_le (by have := World.block_lt_of_cell? _ _ hx434_0; first | rwa [add_block] at this | exact this) GW430.out); have hn434_3 : ad434.block ≠ gb430 := Nat.ne_of_lt (Nat.lt_of_lt_of_le (by have := World.block_lt_of_cell? _ _ hx434_0; first | rwa [add_block] at this | exact this) GW430.out); have hn434_4 : ad434.block ≠ gb430 := Nat.ne_of_lt (Nat.lt_of_lt_of_le (by have := World.block_lt_of_cell? _ _ hx434_0; first | rwa [add_block] at this | exact this) GW430.out); have hn434_5 : ad434.block ≠ gb430 := Nat.ne_of_lt (Nat.lt_of_lt_of_le (by have := World.block_lt_of_cell? _ _ hx434_0; first | rwa [add_block] at this | exact this) GW430.out); replace hx434_0 := (HB.out.cell (World.block_lt_of_cell? w _ hx434_0)).trans hx434_0; replace hx434_1 := (HB.out.cell (World.block_lt_of_cell? w _ hx434_1)).trans hx434_1; replace hx434_2 := (HB.out.cell (World.block_lt_of_cell? w _ hx434_2)).trans hx434_2; replace hx434_3 := (HB.out.cell (World.block_lt_of_cell? w _ hx434_3)).trans hx434_3; replace hx434_4 := (HB.out.cell (World.block_lt_of_cell? w _ hx434_4)).trans hx434_4; replace hx434_5 := (HB.out.cell (World.block_lt_of_cell? w _ hx434_5)).trans hx434_5; replace hx434_0 := (cell_far (p := ⟨gb430, 0, none⟩) (by first | (rw [add_block]; exact hn434_0) | (show (Addr.add _ _).block ≠ _; rw [add_block]; exact hn434_0) | exact hn434_0) (.int .u8 ((rd_T46 l0_0 x3_2).f0))).trans hx434_0; replace hx434_1 := (cell_far (p := ⟨gb430, 0, none⟩) (by first | (rw [add_block]; exact hn434_0) | (show (Addr.add _ _).block ≠ _; rw [add_block]; exact hn434_0) | exact hn434_0) (.int .u8 ((rd_T46 l0_0 x3_2).f0))).trans hx434_1; replace hx434_2 := (cell_far (p := ⟨gb430, 0, none⟩) (by first | (rw [add_block]; exact hn434_0) | (show (Addr.add _ _).block ≠ _; rw [add_block]; exact hn434_0) | exact hn434_0) (.int .u8 ((rd_T46 l0_0 x3_2).f0))).trans hx434_2; replace hx434_3 := (cell_far (p := ⟨gb430, 0, none⟩) (by first | (rw [add_block]; exact hn434_0) | (show (Addr.add _ _).block ≠ _; rw [add_block]; exact hn434_0) | exact hn434_0) (.int .u8 ((rd_T46 l0_0 x3_2).f0))).trans hx434_3; replace hx434_4 := (cell_far (p := ⟨gb430, 0, none⟩) (by first | (rw [add_block]; exact hn434_0) | (show (Addr.add _ _).block ≠ _; rw [add_block]; exact hn434_0) | exact hn434_0) (.int .u8 ((rd_T46 l0_0 x3_2).f0))).trans hx434_4; replace hx434_5 := (cell_far (p := ⟨gb430, 0, none⟩) (by first | (rw [add_block]; exact hn434_0) | (show (Addr.add _ _).block ≠ _; rw [add_block]; exact hn434_0) | exact hn434_0) (.int .u8 ((rd_T46 l0_0 x3_2).f0))).trans hx434_5; replace hx434_0 := (cell_far (p := ⟨gb430, 1, none⟩) (by first | (rw [add_block]; exact hn434_1) | (show (Addr.add _ _).block ≠ _; rw [add_block]; exact hn434_1) | exact hn434_1) (.int .i64 ((rd_T46 l0_0 x3_2).f1))).trans hx434_0; replace hx434_1 := (cell_far (p := ⟨gb430, 1, none⟩) (by first | (rw [add_block]; exact hn434_1) | (show (Addr.add _ _).block ≠ _; rw [add_block]; exact hn434_1) | exact hn434_1) (.int .i64 ((rd_T46 l0_0 x3_2).f1))).trans hx434_1; replace hx434_2 := (cell_far (p := ⟨gb430, 1, none⟩) (by first | (rw [add_block]; exact hn434_1) | (show (Addr.add _ _).block ≠ _; rw [add_block]; exact hn434_1) | exact hn434_1) (.int .i64 ((rd_T46 l0_0 x3_2).f1))).trans hx434_2; replace hx434_3 := (cell_far (p := ⟨gb430, 1, none⟩) (by first | (rw [add_block]; exact hn434_1) | (show (Addr.add _ _).block ≠ _; rw [add_block]; exact hn434_1) | exact hn434_1) (.int .i64 ((rd_T46 l0_0 x3_2).f1))).trans hx434_3; replace hx434_4 := (cell_far (p := ⟨gb430, 1, none⟩) (by first | (rw [add_block]; exact hn434_1) | (show (Addr.add _ _).block ≠ _; rw [add_block]; exact hn434_1) | exact hn434_1) (.int .i64 ((rd_T46 l0_0 x3_2).f1))).trans hx434_4; replace hx434_5 := (cell_far (p := ⟨gb430, 1, none⟩) (by first | (rw [add_block]; exact hn434_1) | (show (Addr.add _ _).block ≠ _; rw [add_block]; exact hn434_1) | exact hn434_1) (.int .i64 ((rd_T46 l0_0 x3_2).f1))).trans hx434_5; replace hx434_0 := (cell_far (p := ⟨gb430, 2, none⟩) (by first | (rw [add_block]; exact hn434_2) | (show (Addr.add _ _).block ≠ _; rw [add_block]; exact hn434_2) | exact hn434_2) (.int .i64 ((rd_T46 l0_0 x3_2).f2))).trans hx434_0; replace hx434_1 := (cell_far (p := ⟨gb430, 2, none⟩) (by first | (rw [add_block]; exact hn434_2) | (show (Addr.add _ _).block ≠ _; rw [add_block]; exact hn434_2) | exact hn434_2) (.int .i64 ((rd_T46 l0_0 x3_2).f2))).trans hx434_1; replace hx434_2 := (cell_far (p := ⟨gb430, 2, none⟩) (by first | (rw [add_block]; exact hn434_2) | (show (Addr.add _ _).block ≠ _; rw [add_block]; exact hn434_2) | exact hn434_2) (.int .i64 ((rd_T46 l0_0 x3_2).f2))).trans hx434_2; replace hx434_3 := (cell_far (p := ⟨gb430, 2, none⟩) (by first | (rw [add_block]; exact hn434_2) | (show (Addr.add _ _).block ≠ _; rw [add_block]; exact hn434_2) | exact hn434_2) (.int .i64 ((rd_T46 l0_0 x3_2).f2))).trans hx434_3; replace hx434_4 := (cell_far (p := ⟨gb430, 2, none⟩) (by first | (rw [add_block]; exact hn434_2) | (show (Addr.add _ _).block ≠ _; rw [add_block]; exact hn434_2) | exact hn434_2) (.int .i64 ((rd_T46 l0_0 x3_2).f2))).trans hx434_4; replace hx434_5 := (cell_far (p := ⟨gb430, 2, none⟩) (by first | (rw [add_block]; exact hn434_2) | (show (Addr.add _ _).block ≠ _; rw [add_block]; exact hn434_2) | exact hn434_2) (.int .i64 ((rd_T46 l0_0 x3_2).f2))).trans hx434_5; replace hx434_0 := (cell_far (p := ⟨gb430, 3, none⟩) (by first | (rw [add_block]; exact hn434_3) | (show (Addr.add _ _).block ≠ _; rw [add_block]; exact hn434_3) | exact hn434_3) (.int .i64 ((rd_T46 l0_0 x3_2).f3))).trans hx434_0; replace hx434_1 := (cell_far (p := ⟨gb430, 3, none⟩) (by first | (rw [add_block]; exact hn434_3) | (show (Addr.add _ _).block ≠ _; rw [add_block]; exact hn434_3) | exact hn434_3) (.int .i64 ((rd_T46 l0_0 x3_2).f3))).trans hx434_1; replace hx434_2 := (cell_far (p := ⟨gb430, 3, none⟩) (by first | (rw [add_block]; exact hn434_3) | (show (Addr.add _ _).block ≠ _; rw [add_block]; exact hn434_3) | exact hn434_3) (.int .i64 ((rd_T46 l0_0 x3_2).f3))).trans hx434_2; replace hx434_3 := (cell_far (p := ⟨gb430, 3, none⟩) (by first | (rw [add_block]; exact hn434_3) | (show (Addr.add _ _).block ≠ _; rw [add_block]; exact hn434_3) | exact hn434_3) (.int .i64 ((rd_T46 l0_0 x3_2).f3))).trans hx434_3; replace hx434_4 := (cell_far (p := ⟨gb430, 3, none⟩) (by first | (rw [add_block]; exact hn434_3) | (show (Addr.add _ _).block ≠ _; rw [add_block]; exact hn434_3) | exact hn434_3) (.int .i64 ((rd_T46 l0_0 x3_2).f3))).trans hx434_4; replace hx434_5 := (cell_far (p := ⟨gb430, 3, none⟩) (by first | (rw [add_block]; exact hn434_3) | (show (Addr.add _ _).block ≠ _; rw [add_block]; exact hn434_3) | exact hn434_3) (.int .i64 ((rd_T46 l0_0 x3_2).f3))).trans hx434_5; replace hx434_0 := (cell_far (p := ⟨gb430, 4, none⟩) (by first | (rw [add_block]; exact hn434_4) | (show (Addr.add _ _).block ≠ _; rw [add_block]; exact hn434_4) | exact hn434_4) (.bool ((rd_T46 l0_0 x3_2).f4))).trans hx434_0; replace hx434_1 := (cell_far (p := ⟨gb430, 4, none⟩) (by first | (rw [add_block]; exact hn434_4) | (show (Addr.add _ _).block ≠ _; rw [add_block]; exact hn434_4) | exact hn434_4) (.bool ((rd_T46 l0_0 x3_2).f4))).trans hx434_1; replace hx434_2 := (cell_far (p := ⟨gb430, 4, none⟩) (by first | (rw [add_block]; exact hn434_4) | (show (Addr.add _ _).block ≠ _; rw [add_block]; exact hn434_4) | exact hn434_4) (.bool ((rd_T46 l0_0 x3_2).f4))).trans hx434_2; replace hx434_3 := (cell_far (p := ⟨gb430, 4, none⟩) (by first | (rw [add_block]; exact hn434_4) | (show (Addr.add _ _).block ≠ _; rw [add_block]; exact hn434_4) | exact hn434_4) (.bool ((rd_T46 l0_0 x3_2).f4))).trans hx434_3; replace hx434_4 := (cell_far (p := ⟨gb430, 4, none⟩) (by first | (rw [add_block]; exact hn434_4) | (show (Addr.add _ _).block ≠ _; rw [add_block]; exact hn434_4) | exact hn434_4) (.bool ((rd_T46 l0_0 x3_2).f4))).trans hx434_4; replace hx434_5 := (cell_far (p := ⟨gb430, 4, none⟩) (by first | (rw [add_block]; exact hn434_4) | (show (Addr.add _ _).block ≠ _; rw [add_block]; exact hn434_4) | exact hn434_4) (.bool ((rd_T46 l0_0 x3_2).f4))).trans hx434_5; replace hx434_0 := (cell_far (p := ⟨gb430, 5, none⟩) (by first | (rw [add_block]; exact hn434_5) | (show (Addr.add _ _).block ≠ _; rw [add_block]; exact hn434_5) | exact hn434_5) (.bool ((rd_T46 l0_0 x3_2).f5))).trans hx434_0; replace hx434_1 := (cell_far (p := ⟨gb430, 5, none⟩) (by first | (rw [add_block]; exact hn434_5) | (show (Addr.add _ _).block ≠ _; rw [add_block]; exact hn434_5) | exact hn434_5) (.bool ((rd_T46 l0_0 x3_2).f5))).trans hx434_1; replace hx434_2 := (cell_far (p := ⟨gb430, 5, none⟩) (by first | (rw [add_block]; exact hn434_5) | (show (Addr.add _ _).block ≠ _; rw [add_block]; exact hn434_5) | exact hn434_5) (.bool ((rd_T46 l0_0 x3_2).f5))).trans hx434_2; replace hx434_3 := (cell_far (p := ⟨gb430, 5, none⟩) (by first | (rw [add_block]; exact hn434_5) | (show (Addr.add _ _).block ≠ _; rw [add_block]; exact hn434_5) | exact hn434_5) (.bool ((rd_T46 l0_0 x3_2).f5))).trans hx434_3; replace hx434_4 := (cell_far (p := ⟨gb430, 5, none⟩) (by first | (rw [add_block]; exact hn434_5) | (show (Addr.add _ _).block ≠ _; rw [add_block]; exact hn434_5) | exact hn434_5) (.bool ((rd_T46 l0_0 x3_2).f5))).trans hx434_4; replace hx434_5 := (cell_far (p := ⟨gb430, 5, none⟩) (by first | (rw [add_block]; exact hn434_5) | (show (Addr.add _ _).block ≠ _; rw [add_block]; exact hn434_5) | exact hn434_5) (.bool ((rd_T46 l0_0 x3_2).f5))).trans hx434_5; clear hn434_0; clear hn434_1; clear hn434_2; clear hn434_3; clear hn434_4; clear hn434_5; replace p434 := eq_true p434; replace q434 := eq_true q434))
             go_roundg k2
             case measure => have := HJ1.out; have := HK2.out; omega
             case rel => exact ⟨(wrap64 (x3_2 + 1)), (by first | rfl | (simp; done) | (simp [*]; done)), H', ⟨by have := HJ1.out; have := HK2.out; omega⟩, ⟨by (with_reducible repeat (first | refine blk_drewN ?_ _ | refine blk_drew ?_ | refine blk_alloc ?_ _)); refine blk_far ?_ NB425_430.out _; (with_reducible repeat (first | refine blk_drewN ?_ _ | refine blk_drew ?_ | refine blk_alloc ?_ _)); refine blk_far ?_ NB425_430.out _; (with_reducible repeat (first | refine blk_drewN ?_ _ | refine blk_drew ?_ | refine blk_alloc ?_ _)); refine blk_far ?_ NB425_430.out _; (with_reducible repeat (first | refine blk_drewN ?_ _ | refine blk_drew ?_ | refine blk_alloc ?_ _)); refine blk_far ?_ NB425_430.out _; (with_reducible repeat (first | refine blk_drewN ?_ _ | refine blk_drew ?_ | refine blk_alloc ?_ _)); refine blk_far ?_ NB425_430.out _; (with_reducible repeat (first | refine blk_drewN ?_ _ | refine blk_drew ?_ | refine blk_alloc ?_ _)); refine blk_far ?_ NB425_430.out _; (with_reducible repeat (first | refine blk_drewN ?_ _ | refine blk_drew ?_ | refine blk_alloc ?_ _)); exact BK425.out⟩, ⟨by repeat (first | (with_reducible first | exact HB.out | apply below_alloc | apply pw_below_drewN | apply below_drew1 | refine below_set ?_ GE425.out | refine below_set ?_ GE430.out) | exact HB.out)⟩⟩
           ·rw [if_neg c39] at H
            exact absurd H (by simp)
       ·rw [if_neg c17] at H
        exact absurd H (by simp)
      ·rw [if_neg c16] at H
       have c16b0 : decide (x3_2 < (l0_0.length : Int)) = false := decide_eq_false c16
       clear c16
       replace H := Option.bind_eq_some_iff.mp H
       obtain ⟨⟨t436, t439⟩, A530, H⟩ := H
       replace H : ((first_Cells.f l0_0 l0_1 t436).bind fun bt440 => (if t439 = 0 then (if bt440.2 = 0 then (if (t436.length : Int) = 1 then (if 0 < (t436.length : Int) then (if (((rd_T43 t436 0).f0) == 0 && (((rd_T43 t436 0).f1) == (l0_0.length : Int) && (!((rd_T43 t436 0).f2)))) = true then (if (bt440.1.length : Int) = 1 then (if 0 < (bt440.1.length : Int) then ((stickfulref11_Same.f k2 (rd_L4 bt440.1 0) l0_0).bind fun t446 => (if t446 = true then ((stickfullaw15_head.f k2).bind fun t447 => (some t447)) else (some false))) else (none)) else (some false)) else (some false)) else (none)) else (some false)) else (some false)) else (some false))) = some r := H
       have A53 := Aside0.mk A530
       clear A530
       replace H := Option.bind_eq_some_iff.mp H
       obtain ⟨⟨t440, t441⟩, A540, H⟩ := H
       replace H : (if t439 = 0 then (if t441 = 0 then (if (t436.length : Int) = 1 then (if 0 < (t436.length : Int) then (if (((rd_T43 t436 0).f0) == 0 && (((rd_T43 t436 0).f1) == (l0_0.length : Int) && (!((rd_T43 t436 0).f2)))) = true then (if (t440.length : Int) = 1 then (if 0 < (t440.length : Int) then ((stickfulref11_Same.f k2 (rd_L4 t440 0) l0_0).bind fun t446 => (if t446 = true then ((stickfullaw15_head.f k2).bind fun t447 => (some t447)) else (some false))) else (none)) else (some false)) else (some false)) else (none)) else (some false)) else (some false)) else (some false)) = some r := H
       have A54 := Aside0.mk A540
       clear A540
       by_cases c55 : t439 = 0
       ·rw [if_pos c55] at H
        have c55b0 : (t439 == 0) = true := beq_iff_eq.mpr c55
        have c55b1 : (t439 != 0) = false := bne_eq_false_iff_eq.mpr c55
        clear c55
        by_cases c56 : t441 = 0
        ·rw [if_pos c56] at H
         have c56b0 : (t441 == 0) = true := beq_iff_eq.mpr c56
         have c56b1 : (t441 != 0) = false := bne_eq_false_iff_eq.mpr c56
         clear c56
         by_cases c57 : (t436.length : Int) = 1
         ·rw [if_pos c57] at H
          have c57b0 : ((t436.length : Int) == 1) = true := beq_iff_eq.mpr c57
          have c57b1 : ((t436.length : Int) != 1) = false := bne_eq_false_iff_eq.mpr c57
          clear c57
          by_cases c58 : 0 < (t436.length : Int)
          ·rw [if_pos c58] at H
           have c58b0 : decide (0 < (t436.length : Int)) = true := decide_eq_true c58
           have c58b1 : decide (0 < t436.length) = true := decide_eq_true (by omega)
           clear c58
           by_cases c59 : (((rd_T43 t436 0).f0) == 0 && (((rd_T43 t436 0).f1) == (l0_0.length : Int) && (!((rd_T43 t436 0).f2)))) = true
           ·rw [if_pos c59] at H
            have c59b0 : (((rd_T43 t436 0).f0) == 0 && (((rd_T43 t436 0).f1) == (l0_0.length : Int) && (!((rd_T43 t436 0).f2)))) = true := c59
            (try (have c59b1 : decide (((rd_T43 t436 0).f0) = 0 && (((rd_T43 t436 0).f1) == (l0_0.length : Int) && (!((rd_T43 t436 0).f2)))) = true := by simpa using c59))
            (try (have c59b2 : (((rd_T43 t436 0).f0) == 0 && (((rd_T43 t436 0).f1) == (l0_0.length : Int) && (!((rd_T43 t436 0).f2)))) = true := by simpa using c59))
            clear c59
            by_cases c60 : (t440.length : Int) = 1
            ·rw [if_pos c60] at H
             have c60b0 : ((t440.length : Int) == 1) = true := beq_iff_eq.mpr c60
             have c60b1 : ((t440.length : Int) != 1) = false := bne_eq_false_iff_eq.mpr c60
             clear c60
             by_cases c61 : 0 < (t440.length : Int)
             ·rw [if_pos c61] at H
              have c61b0 : decide (0 < (t440.length : Int)) = true := decide_eq_true c61
              have c61b1 : decide (0 < t440.length) = true := decide_eq_true (by omega)
              clear c61
              replace H := Option.bind_eq_some_iff.mp H
              obtain ⟨t446, A620, H⟩ := H
              replace H : (if t446 = true then ((stickfullaw15_head.f k2).bind fun t447 => (some t447)) else (some false)) = some r := H
              have A62 := Aside0.mk A620
              clear A620
              by_cases c63 : t446 = true
              ·subst c63
               have H1 : ((stickfullaw15_head.f k2).bind fun t447 => (some t447)) = some r := by rw [if_pos rfl] at H; exact H
               clear H
               have H := H1
               clear H1
               replace H := Option.bind_eq_some_iff.mp H
               obtain ⟨t447, A640, H⟩ := H
               replace H : (some t447) = some r := H
               have A64 := Aside0.mk A640
               clear A640
               obtain rfl := Option.some.inj H
               obtain ⟨hcz65_0, hcz65_1, hcz65_2, hcz65_3, hcz65_4, hcz65_5⟩ := cz6 BK425
               obtain ⟨hfz65_0, hfz65_1, hfz65_2, hfz65_3, hfz65_4, hfz65_5⟩ := fz6 BK425
               try go_wp2_with (first | ((with_reducible refine gate_callee (f := 9) rfl ?_); refine goesB (some 62) rfl rfl Try.func9 #[.slice A0_0 l0_0.length c0_0, .slice A0_1 l0_1.length c0_1, .agg #[.int .i64 1125899906842624, .int .i64 0], .agg #[.int .i64 0, .int .i64 0]] rfl ?_; (with_reducible refine (first_Lines.calls k2 _ _ l0_0 _ _ l0_1 1125899906842624 0 0 0 t436 t439 _ ?side1 ?side2 ?side3 ?side4 A53.out).mono ?_); (case side1 => repeat (first | exact (Kd.C_below HR0_0.out HB.out) | (with_reducible refine Kd.C_alloc ?_ _) | (with_reducible refine Kd.C_drewN ?_ _) | (with_reducible refine Kd.C_drew ?_))); (case side2 => exact HC0_0.out); (case side3 => repeat (first | exact (Kd.C_below HR0_1.out HB.out) | (with_reducible refine Kd.C_alloc ?_ _) | (with_reducible refine Kd.C_drewN ?_ _) | (with_reducible refine Kd.C_drew ?_))); (case side4 => exact HC0_1.out); rintro e w66 ⟨v437, rfl, ho0, hb⟩; refine ⟨_, rfl, ?_⟩; have HO438 := Aside0.mk (Kd.R_lower ho0 (below_size (bw HB))); replace BK425 := bb BK425 hb; replace HB := bh HB hb; (try clear hb); (try clear hb2); (try clear hk); (try clear hi); (try clear ho0); obtain ⟨hcz67_0, hcz67_1, hcz67_2, hcz67_3, hcz67_4, hcz67_5⟩ := cz6 BK425; obtain ⟨hfz67_0, hfz67_1, hfz67_2, hfz67_3, hfz67_4, hfz67_5⟩ := fz6 BK425; obtain ⟨Ao68, co68, eo68⟩ := Kd.R_slice HO438.out; subst eo68) | ((with_reducible refine gate_callee (f := 14) rfl ?_); refine goesB (some 71) rfl rfl Try.func14 #[.slice A0_0 l0_0.length c0_0, .slice A0_1 l0_1.length c0_1, .slice Ao68 t436.length co68] rfl ?_; (with_reducible refine (first_Cells.calls _ _ l0_0 _ _ l0_1 _ _ t436 t440 t441 _ ?side1 ?side2 ?side3 ?side4 ?side5 ?side6 A54.out).mono ?_); (case side1 => repeat (first | exact (Kd.C_below HR0_0.out HB.out) | (with_reducible refine Kd.C_alloc ?_ _) | (with_reducible refine Kd.C_drewN ?_ _) | (with_reducible refine Kd.C_drew ?_))); (case side2 => exact HC0_0.out); (case side3 => repeat (first | exact (Kd.C_below HR0_1.out HB.out) | (with_reducible refine Kd.C_alloc ?_ _) | (with_reducible refine Kd.C_drewN ?_ _) | (with_reducible refine Kd.C_drew ?_))); (case side4 => exact HC0_1.out); (case side5 => repeat (first | exact (Kd.R_reads' HO438.out).2.2 | (with_reducible refine Kd.C_alloc ?_ _) | (with_reducible refine Kd.C_drewN ?_ _) | (with_reducible refine Kd.C_drew ?_))); (case side6 => exact (Kd.R_reads' HO438.out).2.1); rintro e w69 ⟨v442, rfl, ho0, hb⟩; refine ⟨_, rfl, ?_⟩; replace HO438 := Aside0.mk (Kd.R_below (rx HO438) hb); have HO443 := Aside0.mk (Kd.S_lower ho0 (below_size (bw HB))); replace BK425 := bb BK425 hb; replace HB := bh HB hb; (try clear hb); (try clear hb2); (try clear hk); (try clear hi); (try clear ho0)))
               replace HO438 := Aside0.mk (Kd.R_drew HO438.out)
               replace HO443 := Aside0.mk (Kd.S_drew HO443.out)
               replace BK425 := Aside0.mk (blk_drew BK425.out)
               replace HB := Aside0.mk (below_drew1 HB.out)
               have p444 : 0 ≤ (0 : Int) := (by omega)
               have q444 : 0 < (t436.length : Int) := of_decide_eq_true (by first | (with_reducible assumption) | assumption)
               obtain ⟨ad444, e444, hx444_0, hx444_1, hx444_2⟩ := at_T43 (Kd.R_reads' HO438.out).2.2 0 p444 q444
               cases e444
               have qi444 : (0 < t436.length) = True := eq_true (by omega)
               (try rw [show ((0 : Int)).toNat = 0 from rfl] at hx444_0)
               (try rw [show 0 * 3 = 0 from rfl] at hx444_0)
               (try rw [Addr.add_zero'] at hx444_0)
               (try rw [show ((0 : Int)).toNat = 0 from rfl] at hx444_1)
               (try rw [show 0 * 3 = 0 from rfl] at hx444_1)
               (try rw [Addr.add_zero'] at hx444_1)
               (try rw [show ((0 : Int)).toNat = 0 from rfl] at hx444_2)
               (try rw [show 0 * 3 = 0 from rfl] at hx444_2)
               (try rw [Addr.add_zero'] at hx444_2)
               replace p444 := eq_true p444
               replace q444 := eq_true q444
               obtain ⟨Ao71, co71, eo71⟩ := Kd.S_slice HO443.out
               (first | subst eo71 | (injection eo71 with f1_ f2_ f3_; have f4_ := f1_.symm; have f5_ := f3_.symm; clear f1_ f2_ f3_; subst f4_; subst f5_))
               have p445 : 0 ≤ (0 : Int) := (by omega)
               have q445 : 0 < (t440.length : Int) := of_decide_eq_true (by first | (with_reducible assumption) | assumption)
               obtain ⟨ad445, A445_0, c445_0, e445, hx445_0, hl445_0, hi445_0⟩ := at_L4 (Kd.S_reads' HO443.out).2.2 0 p445 q445
               cases e445
               obtain ⟨ce445, hce445, hMe445, hcc445⟩ := Kd.S_get HO443.out [] 0 p445 (by first | exact q445 | exact of_decide_eq_true (by first | (with_reducible assumption) | assumption) | (have e_ := (Kd.S_reads' HO443.out).1; omega))
               obtain ⟨ve445_0, rfl, ge445_0⟩ := hMe445
               have hv445_0 := hcc445 0 _ rfl
               rw [Nat.add_zero, show ((Kd.slice 46 k46)).sz = 1 from rfl, Nat.mul_one] at hv445_0
               replace hv445_0 := Option.some.inj (hv445_0.symm.trans hx445_0)
               rw [hv445_0] at ge445_0
               have HL445_0 := Aside0.mk (show Kd.R k46 46 _ _ _ _ (rd_L4 t440 0) from ge445_0)
               clear hv445_0 ge445_0
               clear hcc445 hce445
               have qi445 : (0 < t440.length) = True := eq_true (by omega)
               (try rw [show ((0 : Int)).toNat = 0 from rfl] at hx445_0)
               (try rw [Addr.add_zero'] at hx445_0)
               have HR445_0 := Aside0.mk hi445_0
               have HC445_0 := Aside0.mk hl445_0
               clear hi445_0 hl445_0
               replace p445 := eq_true p445
               replace q445 := eq_true q445
               refine start_ (n := 38) (S := fun w' => w'.cell? ⟨gb425, 0, none⟩ = some (.slice A0_0 l0_0.length c0_0) ∧ w'.cell? ⟨gb425, 1, none⟩ = some (.slice A0_1 l0_1.length c0_1) ∧ w'.cell? ⟨gb425, 2, none⟩ = some (.int .i64 a0_2) ∧ w'.cell? ⟨gb425, 3, none⟩ = some (.int .i64 a0_3) ∧ w'.cell? ⟨gb425, 4, none⟩ = some (.int .i64 a0_4) ∧ w'.cell? ⟨gb425, 5, none⟩ = some (.int .i64 a0_5) ∧ w'.cell? ad444 = some (.int .i64 ((rd_T43 t436 0).f0)) ∧ w'.cell? ⟨ad444.block, ad444.off + 1, none⟩ = some (.int .i64 ((rd_T43 t436 0).f1)) ∧ w'.cell? ⟨ad444.block, ad444.off + 2, none⟩ = some (.bool ((rd_T43 t436 0).f2)) ∧ w'.cell? ad445 = some (.slice A445_0 (rd_L4 t440 0).length c445_0)) (ds := []) (stickfullaw15_FirstWide.bm 38 0) (by kernel_rfl) rfl rfl ⟨bc BK425 0, bc BK425 1, bc BK425 2, bc BK425 3, bc BK425 4, bc BK425 5, hx444_0, hx444_1, hx444_2, hx445_0⟩ (fun hHeld => ?_); refine with_tabW stickfullaw15_FirstWide.tab11 stickfullaw15_FirstWide.bits11 (fun HT_ HW_ => ?_)
               generalize w69.drew = w70 at HO438 HO443 BK425 HB HL445_0 HR445_0 hx444_0 hx444_1 hx444_2 hx445_0 hHeld ⊢
               refine pure_ (i := 0) (N := some 74) (v := ?_) (a' := ?_) (stickfullaw15_FirstWide.bm 38 1) rfl rfl (any_of HT_.out (by kernel_rfl)) (fun _ _ _ h => h) (Or.inl ⟨by rfl, ?_⟩) ?_ ?_
               rotate_left; (focus intro w'; go_simp; with_reducible rfl); rotate_left; (focus simp only [Act.put, List.setIfInBounds_toArray, List.set_cons_zero, List.set_cons_succ, i64_w, i32_w]; rfl)
               refine pure_ (i := 1) (N := some 75) (v := ?_) (a' := ?_) (stickfullaw15_FirstWide.bm 38 3) rfl rfl (any_of HT_.out (by kernel_rfl)) (fun _ _ _ h => h) (Or.inl ⟨by rfl, ?_⟩) ?_ ?_
               rotate_left; (focus intro w'; go_simp; with_reducible rfl); rotate_left; (focus simp only [Act.put, List.setIfInBounds_toArray, List.set_cons_zero, List.set_cons_succ, i64_w, i32_w]; rfl)
               refine pure_ (i := 2) (N := some 76) (v := ?_) (a' := ?_) (stickfullaw15_FirstWide.bm 38 7) rfl rfl (any_of HT_.out (by kernel_rfl)) (fun _ _ _ h => h) (Or.inl ⟨by rfl, ?_⟩) ?_ ?_
               rotate_left; (focus intro w'; go_simp; with_reducible rfl); rotate_left; (focus simp only [Act.put, List.setIfInBounds_toArray, List.set_cons_zero, List.set_cons_succ, i64_w, i32_w]; rfl)
               refine pure_ (i := 3) (N := some 77) (v := ?_) (a' := ?_) (stickfullaw15_FirstWide.bm 38 15) rfl rfl (any_of HT_.out (by kernel_rfl)) (fun _ _ _ h => h) (Or.inl ⟨by rfl, ?_⟩) ?_ ?_
               rotate_left; (focus intro w'; go_simp; with_reducible rfl); rotate_left; (focus simp only [Act.put, List.setIfInBounds_toArray, List.set_cons_zero, List.set_cons_succ, i64_w, i32_w]; rfl)
               refine pure_ (i := 4) (N := some 78) (v := ?_) (a' := ?_) (stickfullaw15_FirstWide.bm 38 31) rfl rfl (any_of HT_.out (by kernel_rfl)) (fun _ _ _ h => h) (Or.inl ⟨by rfl, ?_⟩) ?_ ?_
               rotate_left; (focus intro w'; go_simp; with_reducible rfl); rotate_left; (focus simp only [Act.put, List.setIfInBounds_toArray, List.set_cons_zero, List.set_cons_succ, i64_w, i32_w]; rfl)
               refine pure_ (i := 5) (N := some 79) (v := ?_) (a' := ?_) (stickfullaw15_FirstWide.bm 38 63) rfl rfl (any_of HT_.out (by kernel_rfl)) (fun _ _ _ h => h) (Or.inl ⟨by rfl, ?_⟩) ?_ ?_
               rotate_left; (focus intro w'; go_simp; with_reducible rfl); rotate_left; (focus simp only [Act.put, List.setIfInBounds_toArray, List.set_cons_zero, List.set_cons_succ, i64_w, i32_w]; rfl)
               refine pure_ (i := 6) (N := some 80) (v := ?_) (a' := ?_) (stickfullaw15_FirstWide.bm 38 127) rfl rfl (any_of HT_.out (by kernel_rfl)) (fun _ _ _ h => h) (Or.inl ⟨by rfl, ?_⟩) ?_ ?_
               rotate_left; (focus intro w'; go_simp; with_reducible rfl); rotate_left; (focus simp only [Act.put, List.setIfInBounds_toArray, List.set_cons_zero, List.set_cons_succ, i64_w, i32_w]; rfl)
               refine pure_ (i := 7) (N := some 81) (v := ?_) (a' := ?_) (stickfullaw15_FirstWide.bm 38 255) rfl rfl (any_of HT_.out (by kernel_rfl)) (fun _ _ _ h => h) (Or.inl ⟨by rfl, ?_⟩) ?_ ?_
               rotate_left; (focus intro w'; go_simp; with_reducible rfl); rotate_left; (focus simp only [Act.put, List.setIfInBounds_toArray, List.set_cons_zero, List.set_cons_succ, i64_w, i32_w]; rfl)
               refine pure_ (i := 8) (N := some 82) (v := ?_) (a' := ?_) (stickfullaw15_FirstWide.bm 38 511) rfl rfl (any_of HT_.out (by kernel_rfl)) (fun _ _ _ h => h) (Or.inl ⟨by rfl, ?_⟩) ?_ ?_
               rotate_left; (focus intro w'; go_simp; with_reducible rfl); rotate_left; (focus simp only [Act.put, List.setIfInBounds_toArray, List.set_cons_zero, List.set_cons_succ, i64_w, i32_w]; rfl)
               refine pure_ (i := 9) (N := some 83) (v := ?_) (a' := ?_) (stickfullaw15_FirstWide.bm 38 1023) rfl rfl (any_of HT_.out (by kernel_rfl)) (fun _ _ _ h => h) (Or.inl ⟨by rfl, ?_⟩) ?_ ?_
               rotate_left; (focus intro w'; go_simp; with_reducible rfl); rotate_left; (focus simp only [Act.put, List.setIfInBounds_toArray, List.set_cons_zero, List.set_cons_succ, i64_w, i32_w]; rfl)
               refine pure_ (i := 10) (N := some 84) (v := ?_) (a' := ?_) (stickfullaw15_FirstWide.bm 38 2047) rfl rfl (any_of HT_.out (by kernel_rfl)) (fun _ _ _ h => h) (Or.inl ⟨by rfl, ?_⟩) ?_ ?_
               rotate_left; (focus intro w'; go_simp; with_reducible rfl); rotate_left; (focus simp only [Act.put, List.setIfInBounds_toArray, List.set_cons_zero, List.set_cons_succ, i64_w, i32_w]; rfl)
               refine pure_ (i := 11) (N := some 85) (v := ?_) (a' := ?_) (stickfullaw15_FirstWide.bm 38 4095) rfl rfl (any_of HT_.out (by kernel_rfl)) (fun _ _ _ h => h) (Or.inl ⟨by rfl, ?_⟩) ?_ ?_
               rotate_left; (focus intro w'; go_simp; with_reducible rfl); rotate_left; (focus simp only [Act.put, List.setIfInBounds_toArray, List.set_cons_zero, List.set_cons_succ, i64_w, i32_w]; rfl)
               refine pure_ (i := 12) (N := some 86) (v := ?_) (a' := ?_) (stickfullaw15_FirstWide.bm 38 8191) rfl rfl (any_of HT_.out (by kernel_rfl)) (fun _ _ _ h => h) (Or.inl ⟨by rfl, ?_⟩) ?_ ?_
               rotate_left; (focus intro w'; go_simp; with_reducible rfl); rotate_left; (focus simp only [Act.put, List.setIfInBounds_toArray, List.set_cons_zero, List.set_cons_succ, i64_w, i32_w]; rfl)
               refine pure_ (i := 13) (N := some 87) (v := ?_) (a' := ?_) (stickfullaw15_FirstWide.bm 38 16383) rfl rfl (any_of HT_.out (by kernel_rfl)) (fun _ _ _ h => h) (Or.inl ⟨by rfl, ?_⟩) ?_ ?_
               rotate_left; (focus intro w'; go_simp; with_reducible rfl); rotate_left; (focus simp only [Act.put, List.setIfInBounds_toArray, List.set_cons_zero, List.set_cons_succ, i64_w, i32_w]; rfl)
               refine pure_ (i := 15) (N := some 89) (v := ?_) (a' := ?_) (stickfullaw15_FirstWide.bm 38 49151) rfl rfl (any_of HT_.out (by kernel_rfl)) (fun _ _ _ h => h) (Or.inl ⟨by rfl, ?_⟩) ?_ ?_
               rotate_left; (focus intro w'; go_simp; with_reducible rfl); rotate_left; (focus simp only [Act.put, List.setIfInBounds_toArray, List.set_cons_zero, List.set_cons_succ, i64_w, i32_w]; rfl)
               refine take_ (i := 14) (N := some 88) (v := ?_) (a' := ?_) (stickfullaw15_FirstWide.bm 38 65535) rfl rfl (take_ofW HT_.out HW_.out (by kernel_rfl)) (fun _ _ _ h => h) (Or.inl ⟨by rfl, ?_⟩) hHeld ?_ ?_
               rotate_left; (focus rintro w' ⟨s0, s1, s2, s3, s4, s5, s6, s7, s8, s9⟩; go_simp; with_reducible rfl); rotate_left; (focus simp only [Act.put, List.setIfInBounds_toArray, List.set_cons_zero, List.set_cons_succ, i64_w, i32_w]; rfl)
               refine take_ (i := 16) (N := some 90) (v := ?_) (a' := ?_) (stickfullaw15_FirstWide.bm 38 131071) rfl rfl (take_ofW HT_.out HW_.out (by kernel_rfl)) (fun _ _ _ h => h) (Or.inl ⟨by rfl, ?_⟩) hHeld ?_ ?_
               rotate_left; (focus rintro w' ⟨s0, s1, s2, s3, s4, s5, s6, s7, s8, s9⟩; go_simp; with_reducible rfl); rotate_left; (focus simp only [Act.put, List.setIfInBounds_toArray, List.set_cons_zero, List.set_cons_succ, i64_w, i32_w]; rfl)
               refine pure_ (i := 17) (N := some 91) (v := ?_) (a' := ?_) (stickfullaw15_FirstWide.bm 38 262143) rfl rfl (any_of HT_.out (by kernel_rfl)) (fun _ _ _ h => h) (Or.inl ⟨by rfl, ?_⟩) ?_ ?_
               rotate_left; (focus intro w'; go_simp; with_reducible rfl); rotate_left; (focus simp only [Act.put, List.setIfInBounds_toArray, List.set_cons_zero, List.set_cons_succ, i64_w, i32_w]; rfl)
               refine pure_ (i := 18) (N := some 92) (v := ?_) (a' := ?_) (stickfullaw15_FirstWide.bm 38 524287) rfl rfl (any_of HT_.out (by kernel_rfl)) (fun _ _ _ h => h) (Or.inl ⟨by rfl, ?_⟩) ?_ ?_
               rotate_left; (focus intro w'; go_simp; with_reducible rfl); rotate_left; (focus simp only [Act.put, List.setIfInBounds_toArray, List.set_cons_zero, List.set_cons_succ, i64_w, i32_w]; rfl)
               refine pure_ (i := 19) (N := some 93) (v := ?_) (a' := ?_) (stickfullaw15_FirstWide.bm 38 1048575) rfl rfl (any_of HT_.out (by kernel_rfl)) (fun _ _ _ h => h) (Or.inl ⟨by rfl, ?_⟩) ?_ ?_
               rotate_left; (focus intro w'; go_simp; with_reducible rfl); rotate_left; (focus simp only [Act.put, List.setIfInBounds_toArray, List.set_cons_zero, List.set_cons_succ, i64_w, i32_w]; rfl)
               refine pure_ (i := 20) (N := some 94) (v := ?_) (a' := ?_) (stickfullaw15_FirstWide.bm 38 2097151) rfl rfl (any_of HT_.out (by kernel_rfl)) (fun _ _ _ h => h) (Or.inl ⟨by rfl, ?_⟩) ?_ ?_
               rotate_left; (focus intro w'; go_simp; with_reducible rfl); rotate_left; (focus simp only [Act.put, List.setIfInBounds_toArray, List.set_cons_zero, List.set_cons_succ, i64_w, i32_w]; rfl)
               refine pure_ (i := 21) (N := some 95) (v := ?_) (a' := ?_) (stickfullaw15_FirstWide.bm 38 4194303) rfl rfl (any_of HT_.out (by kernel_rfl)) (fun _ _ _ h => h) (Or.inl ⟨by rfl, ?_⟩) ?_ ?_
               rotate_left; (focus intro w'; go_simp; with_reducible rfl); rotate_left; (focus simp only [Act.put, List.setIfInBounds_toArray, List.set_cons_zero, List.set_cons_succ, i64_w, i32_w]; rfl)
               refine pure_ (i := 22) (N := some 96) (v := ?_) (a' := ?_) (stickfullaw15_FirstWide.bm 38 8388607) rfl rfl (any_of HT_.out (by kernel_rfl)) (fun _ _ _ h => h) (Or.inl ⟨by rfl, ?_⟩) ?_ ?_
               rotate_left; (focus intro w'; go_simp; with_reducible rfl); rotate_left; (focus simp only [Act.put, List.setIfInBounds_toArray, List.set_cons_zero, List.set_cons_succ, i64_w, i32_w]; rfl)
               refine pure_ (i := 23) (N := some 97) (v := ?_) (a' := ?_) (stickfullaw15_FirstWide.bm 38 16777215) rfl rfl (any_of HT_.out (by kernel_rfl)) (fun _ _ _ h => h) (Or.inl ⟨by rfl, ?_⟩) ?_ ?_
               rotate_left; (focus intro w'; go_simp; with_reducible rfl); rotate_left; (focus simp only [Act.put, List.setIfInBounds_toArray, List.set_cons_zero, List.set_cons_succ, i64_w, i32_w]; rfl)
               refine pure_ (i := 24) (N := some 98) (v := ?_) (a' := ?_) (stickfullaw15_FirstWide.bm 38 33554431) rfl rfl (any_of HT_.out (by kernel_rfl)) (fun _ _ _ h => h) (Or.inl ⟨by rfl, ?_⟩) ?_ ?_
               rotate_left; (focus intro w'; go_simp; with_reducible rfl); rotate_left; (focus simp only [Act.put, List.setIfInBounds_toArray, List.set_cons_zero, List.set_cons_succ, i64_w, i32_w]; rfl)
               refine pure_ (i := 25) (N := some 99) (v := ?_) (a' := ?_) (stickfullaw15_FirstWide.bm 38 67108863) rfl rfl (any_of HT_.out (by kernel_rfl)) (fun _ _ _ h => h) (Or.inl ⟨by rfl, ?_⟩) ?_ ?_
               rotate_left; (focus intro w'; go_simp; with_reducible rfl); rotate_left; (focus simp only [Act.put, List.setIfInBounds_toArray, List.set_cons_zero, List.set_cons_succ, i64_w, i32_w]; rfl)
               refine pure_ (i := 26) (N := some 100) (v := ?_) (a' := ?_) (stickfullaw15_FirstWide.bm 38 134217727) rfl rfl (any_of HT_.out (by kernel_rfl)) (fun _ _ _ h => h) (Or.inl ⟨by rfl, ?_⟩) ?_ ?_
               rotate_left; (focus intro w'; go_simp; with_reducible rfl); rotate_left; (focus simp only [Act.put, List.setIfInBounds_toArray, List.set_cons_zero, List.set_cons_succ, i64_w, i32_w]; rfl)
               refine pure_ (i := 27) (N := some 101) (v := ?_) (a' := ?_) (stickfullaw15_FirstWide.bm 38 268435455) rfl rfl (any_of HT_.out (by kernel_rfl)) (fun _ _ _ h => h) (Or.inl ⟨by rfl, ?_⟩) ?_ ?_
               rotate_left; (focus intro w'; go_simp; with_reducible rfl); rotate_left; (focus simp only [Act.put, List.setIfInBounds_toArray, List.set_cons_zero, List.set_cons_succ, i64_w, i32_w]; rfl)
               refine pure_ (i := 28) (N := some 102) (v := ?_) (a' := ?_) (stickfullaw15_FirstWide.bm 38 536870911) rfl rfl (any_of HT_.out (by kernel_rfl)) (fun _ _ _ h => h) (Or.inl ⟨by rfl, ?_⟩) ?_ ?_
               rotate_left; (focus intro w'; go_simp; with_reducible rfl); rotate_left; (focus simp only [Act.put, List.setIfInBounds_toArray, List.set_cons_zero, List.set_cons_succ, i64_w, i32_w]; rfl)
               refine pure_ (i := 30) (N := some 104) (v := ?_) (a' := ?_) (stickfullaw15_FirstWide.bm 38 1610612735) rfl rfl (any_of HT_.out (by kernel_rfl)) (fun _ _ _ h => h) (Or.inl ⟨by rfl, ?_⟩) ?_ ?_
               rotate_left; (focus intro w'; go_simp; with_reducible rfl); rotate_left; (focus simp only [Act.put, List.setIfInBounds_toArray, List.set_cons_zero, List.set_cons_succ, i64_w, i32_w]; rfl)
               refine take_ (i := 29) (N := some 103) (v := ?_) (a' := ?_) (stickfullaw15_FirstWide.bm 38 2147483647) rfl rfl (take_ofW HT_.out HW_.out (by kernel_rfl)) (fun _ _ _ h => h) (Or.inl ⟨by rfl, ?_⟩) hHeld ?_ ?_
               rotate_left; (focus rintro w' ⟨s0, s1, s2, s3, s4, s5, s6, s7, s8, s9⟩; go_simp; with_reducible rfl); rotate_left; (focus simp only [Act.put, List.setIfInBounds_toArray, List.set_cons_zero, List.set_cons_succ, i64_w, i32_w]; rfl)
               refine take_ (i := 31) (N := some 105) (v := ?_) (a' := ?_) (stickfullaw15_FirstWide.bm 38 4294967295) rfl rfl (take_ofW HT_.out HW_.out (by kernel_rfl)) (fun _ _ _ h => h) (Or.inl ⟨by rfl, ?_⟩) hHeld ?_ ?_
               rotate_left; (focus rintro w' ⟨s0, s1, s2, s3, s4, s5, s6, s7, s8, s9⟩; go_simp; with_reducible rfl); rotate_left; (focus simp only [Act.put, List.setIfInBounds_toArray, List.set_cons_zero, List.set_cons_succ, i64_w, i32_w]; rfl)
               refine one_ (i := 32) (N := some 106) (stickfullaw15_FirstWide.bm 38 8589934591) rfl rfl (one_of HT_.out (by kernel_rfl)) (by decide) (fun K hK => ?_)
               refine goes_ Try.func16 (by kernel_rfl) rfl #[.slice A445_0 (rd_L4 t440 0).length c445_0, .slice A0_0 l0_0.length c0_0] (by rfl) rfl rfl (by (try simp only [List.map_toArray, List.map_cons, List.map_nil]); first | done | rfl | (simp only [List.length_drop, List.length_take]; rfl)) ?_
               with_reducible refine (stickfulref11_Same.calls k2 _ _ (rd_L4 t440 0) _ _ l0_0 true _ ?side1 ?side2 ?side3 ?side4 A62.out).mono ?_
               (case side1 => repeat (first | exact (by repeat (first | (with_reducible exact HR445_0.out) | (with_reducible refine Kd.C_alloc ?_ _) | (with_reducible refine Kd.C_drewN ?_ _) | (with_reducible refine Kd.C_drew ?_) | exact HR445_0.out)) | (with_reducible refine Kd.C_alloc ?_ _) | (with_reducible refine Kd.C_drewN ?_ _) | (with_reducible refine Kd.C_drew ?_)))
               (case side2 => exact HC445_0.out)
               (case side3 => repeat (first | exact (Kd.C_below HR0_0.out HB.out) | (with_reducible refine Kd.C_alloc ?_ _) | (with_reducible refine Kd.C_drewN ?_ _) | (with_reducible refine Kd.C_drew ?_)))
               (case side4 => exact HC0_0.out)
               rintro e w' ⟨rfl, ⟨nd, rfl⟩⟩
               refine ⟨_, rfl, ?_⟩
               refine hK.out _ _ ⟨bc BK425 0, bc BK425 1, bc BK425 2, bc BK425 3, bc BK425 4, bc BK425 5, hHeld.2.2.2.2.2.2.1, hHeld.2.2.2.2.2.2.2.1, hHeld.2.2.2.2.2.2.2.2.1, hHeld.2.2.2.2.2.2.2.2.2⟩ (fun hHeld => ?_)
               clear hK K
               refine norm_ (a' := ?_) ?_ ?_
               rotate_left; (focus show Act.put _ (some 106) _ = _; simp only [Act.put, List.setIfInBounds_toArray, List.set_cons_zero, List.set_cons_succ, i64_w, i32_w]; rfl)
               refine pure_ (i := 33) (N := some 107) (v := ?_) (a' := ?_) (stickfullaw15_FirstWide.bm 38 17179869183) rfl rfl (any_of HT_.out (by kernel_rfl)) (fun _ _ _ h => h) (Or.inl ⟨by rfl, ?_⟩) ?_ ?_
               rotate_left; (focus intro w'; go_simp; with_reducible rfl); rotate_left; (focus simp only [Act.put, List.setIfInBounds_toArray, List.set_cons_zero, List.set_cons_succ, i64_w, i32_w]; rfl)
               refine pure_ (i := 34) (N := some 108) (v := ?_) (a' := ?_) (stickfullaw15_FirstWide.bm 38 34359738367) rfl rfl (any_of HT_.out (by kernel_rfl)) (fun _ _ _ h => h) (Or.inl ⟨by rfl, ?_⟩) ?_ ?_
               rotate_left; (focus intro w'; go_simp; with_reducible rfl); rotate_left; (focus simp only [Act.put, List.setIfInBounds_toArray, List.set_cons_zero, List.set_cons_succ, i64_w, i32_w]; rfl)
               refine one_ (i := 35) (N := some 109) (stickfullaw15_FirstWide.bm 38 68719476735) rfl rfl (one_of HT_.out (by kernel_rfl)) (by decide) (fun K hK => ?_)
               refine goes_ Try.func8 (by kernel_rfl) rfl #[] (by rfl) rfl rfl (by (try simp only [List.map_toArray, List.map_cons, List.map_nil]); first | done | rfl | (simp only [List.length_drop, List.length_take]; rfl)) ?_
               with_reducible refine (stickfullaw15_head.calls k2  t447 _ A64.out).mono ?_
               rintro e w72 ⟨rfl, hb⟩
               have HS6_ := (hb.cell (World.block_lt_of_cell? _ _ (hHeld.2.2.2.2.2.2.1))).trans (hHeld.2.2.2.2.2.2.1)
               have HS7_ := (hb.cell (World.block_lt_of_cell? _ _ (hHeld.2.2.2.2.2.2.2.1))).trans (hHeld.2.2.2.2.2.2.2.1)
               have HS8_ := (hb.cell (World.block_lt_of_cell? _ _ (hHeld.2.2.2.2.2.2.2.2.1))).trans (hHeld.2.2.2.2.2.2.2.2.1)
               have HS9_ := (hb.cell (World.block_lt_of_cell? _ _ (hHeld.2.2.2.2.2.2.2.2.2))).trans (hHeld.2.2.2.2.2.2.2.2.2)
               refine ⟨_, rfl, ?_⟩
               replace HO438 := Aside0.mk (Kd.R_below (rx HO438) hb)
               replace HO443 := Aside0.mk (Kd.S_below (by (with_reducible repeat (first | apply Kd.S_alloc | apply Kd.S_drewN | apply Kd.S_drew)); exact HO443.out) hb)
               replace HL445_0 := Aside0.mk (Kd.R_below (by (with_reducible repeat (first | apply Kd.R_alloc | apply Kd.R_drewN | apply Kd.R_drew)); exact HL445_0.out) hb)
               replace BK425 := bb BK425 hb
               replace HR445_0 := Aside0.mk (Kd.C_below (by repeat (first | (with_reducible exact HR445_0.out) | (with_reducible refine Kd.C_alloc ?_ _) | (with_reducible refine Kd.C_drewN ?_ _) | (with_reducible refine Kd.C_drew ?_) | exact HR445_0.out)) hb)
               replace HB := bh HB hb
               (try clear hb)
               (try clear hb2)
               (try clear hk)
               (try clear hi)
               refine hK.out _ _ ⟨bc BK425 0, bc BK425 1, bc BK425 2, bc BK425 3, bc BK425 4, bc BK425 5, HS6_, HS7_, HS8_, HS9_⟩ (fun hHeld => ?_)
               clear hK K
               refine norm_ (a' := ?_) ?_ ?_
               rotate_left; (focus show Act.put _ (some 109) _ = _; simp only [Act.put, List.setIfInBounds_toArray, List.set_cons_zero, List.set_cons_succ, i64_w, i32_w]; rfl)
               refine pure_ (i := 36) (N := some 110) (v := ?_) (a' := ?_) (stickfullaw15_FirstWide.bm 38 137438953471) rfl rfl (any_of HT_.out (by kernel_rfl)) (fun _ _ _ h => h) (Or.inl ⟨by rfl, ?_⟩) ?_ ?_
               rotate_left; (focus intro w'; go_simp; with_reducible rfl); rotate_left; (focus simp only [Act.put, List.setIfInBounds_toArray, List.set_cons_zero, List.set_cons_succ, i64_w, i32_w]; rfl)
               refine pure_ (i := 37) (N := some 2) (v := ?_) (a' := ?_) (stickfullaw15_FirstWide.bm 38 274877906943) rfl rfl (any_of HT_.out (by kernel_rfl)) (fun _ _ _ h => h) (Or.inl ⟨by rfl, ?_⟩) ?_ ?_
               rotate_left; (focus intro w'; go_simp; with_reducible rfl); rotate_left; (focus simp only [Act.put, List.setIfInBounds_toArray, List.set_cons_zero, List.set_cons_succ, i64_w, i32_w]; rfl)
               refine done_ (done_of HT_.out (by kernel_rfl)) ?_
               try go_wp2
               go_ret
               exact ⟨by first | rfl | (simp [errW_none, errW_some] <;> rfl) | (simp [*, errW_none, errW_some] <;> rfl), by repeat (first | (with_reducible first | exact HB.out | apply below_alloc | apply pw_below_drewN | apply below_drew1 | refine below_set ?_ GE425.out) | exact HB.out)⟩
              ·replace c63 := Bool.eq_false_iff.mpr c63
               subst c63
               have H1 : (some false) = some r := by rw [if_neg (show ¬ (false = true) by decide)] at H; exact H
               clear H
               have H := H1
               clear H1
               exact absurd ((Option.some.inj H).trans HR_.out) (by decide)
             ·rw [if_neg c61] at H
              exact absurd H (by simp)
            ·rw [if_neg c60] at H
             have c60b0 : ((t440.length : Int) == 1) = false := beq_eq_false_iff_ne.mpr c60
             have c60b1 : ((t440.length : Int) != 1) = true := bne_iff_ne.mpr c60
             exact absurd ((Option.some.inj H).trans HR_.out) (by decide)
           ·rw [if_neg c59] at H
            have c59b0 : (((rd_T43 t436 0).f0) == 0 && (((rd_T43 t436 0).f1) == (l0_0.length : Int) && (!((rd_T43 t436 0).f2)))) = false := by simpa using c59
            (try (have c59b1 : decide (((rd_T43 t436 0).f0) = 0 && (((rd_T43 t436 0).f1) == (l0_0.length : Int) && (!((rd_T43 t436 0).f2)))) = false := by simpa using c59))
            (try (have c59b2 : (((rd_T43 t436 0).f0) == 0 && (((rd_T43 t436 0).f1) == (l0_0.length : Int) && (!((rd_T43 t436 0).f2)))) = false := by simpa using c59))
            (try (have c59b3 : ¬ (((rd_T43 t436 0).f0) = 0 && (((rd_T43 t436 0).f1) == (l0_0.length : Int) && (!((rd_T43 t436 0).f2)))) := by simpa using c59))
            clear c59
            exact absurd ((Option.some.inj H).trans HR_.out) (by decide)
          ·rw [if_neg c58] at H
           exact absurd H (by simp)
         ·rw [if_neg c57] at H
          have c57b0 : ((t436.length : Int) == 1) = false := beq_eq_false_iff_ne.mpr c57
          have c57b1 : ((t436.length : Int) != 1) = true := bne_iff_ne.mpr c57
          exact absurd ((Option.some.inj H).trans HR_.out) (by decide)
        ·rw [if_neg c56] at H
         have c56b0 : (t441 == 0) = false := beq_eq_false_iff_ne.mpr c56
         have c56b1 : (t441 != 0) = true := bne_iff_ne.mpr c56
         exact absurd ((Option.some.inj H).trans HR_.out) (by decide)
       ·rw [if_neg c55] at H
        have c55b0 : (t439 == 0) = false := beq_eq_false_iff_ne.mpr c55
        have c55b1 : (t439 != 0) = true := bne_iff_ne.mpr c55
        exact absurd ((Option.some.inj H).trans HR_.out) (by decide)

end Go.Proofs.Ytdmlnkgpjileaaa.HFirst
