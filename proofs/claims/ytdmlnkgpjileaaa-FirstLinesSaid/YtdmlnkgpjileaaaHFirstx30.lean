-- Written by this claim's own program over the kit's print.
import Derived.Test.YtdmlnkgpjileaaaM3
import Derived.Test.YtdmlnkgpjileaaaHFirstx4
import Derived.Test.YtdmlnkgpjileaaaHFirstx18
import Derived.Test.YtdmlnkgpjileaaaHFirstx21
import Derived.Test.YtdmlnkgpjileaaaHFirstx29
namespace Go.Proofs.Ytdmlnkgpjileaaa.HFirst
open Go.RowKit Go.Proofs.YtdmlnkgpjileaaaW.PrintWords Go.Proofs.YtdmlnkgpjileaaaW.PrintLast Go.Proofs.YtdmlnkgpjileaaaW.PrintMore Go.Proofs.Ytdmlnkgpjileaaa.Hand
attribute [local go_sem] max2_int min2_int max_two min_two max_three min_three max_four min_four   -- for this text's walks alone
set_option linter.unusedVariables false
set_option linter.unusedSimpArgs false

/-- Which operations have been taken: the bits of a number. -/
def stickfullaw15_FirstLines.bits : Nat → Nat → List Bool
 | 0, _ => []
 | n + 1, m => Nat.beq (m % 2) 1 :: stickfullaw15_FirstLines.bits n (m / 2)
def stickfullaw15_FirstLines.bm (n m : Nat) : Array Bool := (stickfullaw15_FirstLines.bits n m).toArray
/-! ### stickfullaw15_FirstLines: function 3 -/
def stickfullaw15_FirstLines.f (k : Nat) (l0_0 : List (S46)) (l0_1 : List (S46)) (a0_2 a0_3 a0_4 a0_5 : Int) : Option (Bool) := (stickfullaw15_great.f l0_0 l0_1 a0_2 a0_3 a0_4 a0_5).bind fun t409 => (if t409 = true then ((stickfullaw15_head.f k).bind fun t410 => (some t410)) else ((first_Lines.f k l0_0 l0_1 a0_2 a0_3 a0_4 a0_5).bind fun bt411 => ((stickfulref15_Lines.f k l0_0 l0_1 a0_2 a0_3 a0_4 a0_5).bind fun bt415 => ((stickfulref14_Same.f k bt411.1 bt415.1).bind fun t419 => (if t419 = true then (if bt411.2 = bt415.2 then ((first_Alike.f l0_0 l0_1).bind fun t420 => ((stickfulref15_Alike.f k l0_0 l0_1).bind fun t421 => (if (t420 == t421) = true then ((stickfullaw15_head.f k).bind fun t422 => (some t422)) else (some false)))) else (some false)) else (some false))))))
theorem stickfullaw15_FirstLines.mono : ∀ a0 a1 a2 a3 a4 a5 k, LeO (stickfullaw15_FirstLines.f k a0 a1 a2 a3 a4 a5) (stickfullaw15_FirstLines.f (k + 1) a0 a1 a2 a3 a4 a5) := by
 intro a0 a1 a2 a3 a4 a5 k
 unfold stickfullaw15_FirstLines.f
 repeat' first
   | (with_reducible exact first_Lines.mono _ _ _ _ _ _ _)
   | (with_reducible exact stickfullaw15_head.mono _)
   | (with_reducible exact stickfulref14_Same.mono _ _ _)
   | (with_reducible exact stickfulref15_Alike.mono _ _ _)
   | (with_reducible exact stickfulref15_Lines.mono _ _ _ _ _ _ _)
   | (with_reducible exact LeO.refl _)
   | (with_reducible exact LeO.none _)
   | (with_reducible refine LeO.ite ?_ ?_)
   | (with_reducible refine LeO.bind ?_ (fun _ => ?_))
   | exact first_Lines.mono _ _ _ _ _ _ _
   | exact stickfullaw15_head.mono _
   | exact stickfulref14_Same.mono _ _ _
   | exact stickfulref15_Alike.mono _ _ _
   | exact stickfulref15_Lines.mono _ _ _ _ _ _ _
   | exact LeO.none _
   | refine LeO.ite ?_ ?_
   | refine LeO.bind ?_ (fun _ => ?_)
def stickfullaw15_FirstLines.T5 : Bool × List (List Nat × List Nat) := (true, [([], []), ([], []), ([0, 1], [0, 1]), ([2, 2], [2]), ([3], [3]), ([3], [3]), ([4, 5, 3], [3, 4, 5]), ([3, 6], [3, 6]), ([7, 3], [7]), ([8], [8]), ([9, 8], [8, 9]), ([8], [8]), ([11, 8], [8, 11]), ([10, 12, 8, 8], [8, 10, 12]), ([8], [8]), ([14, 8], [8, 14]), ([8], [8]), ([16, 8], [8, 16]), ([15, 17, 13, 8], [8, 15, 17]), ([13, 18, 8], [8, 13, 18]), ([8, 19], [8, 19]), ([20, 18], [20]), ([21, 21], [21]), ([21, 22], [21, 22]), ([23, 22, 0, 1, 2, 3, 4, 5, 6, 7, 8, 9, 10, 11, 12, 13, 14, 15, 16, 17, 18, 19, 20, 21, 22, 23], [23])])
def stickfullaw15_FirstLines.B5 : List Nat := [0, 0, 3, 7, 15, 15, 63, 127, 255, 511, 1023, 511, 2559, 8191, 511, 16895, 511, 66047, 262143, 524287, 1048575, 2097151, 4194303, 8388607, 16777215]
theorem stickfullaw15_FirstLines.tab5 : rtab .any (opsOf Try.f3 5) = stickfullaw15_FirstLines.T5 := by kernel_rfl
theorem stickfullaw15_FirstLines.bits5 : waitsOk stickfullaw15_FirstLines.T5.2 stickfullaw15_FirstLines.B5 = true := by kernel_rfl
set_option maxHeartbeats 8000000 in
set_option maxRecDepth 100000 in
theorem stickfullaw15_FirstLines.calls_t (k : Nat) (A0_0 : Option Addr) (c0_0 : Nat) (l0_0 : List (S46)) (A0_1 : Option Addr) (c0_1 : Nat) (l0_1 : List (S46)) (a0_2 a0_3 a0_4 a0_5 : Int) (r : Bool) (w : World) (hr0_0 : Kd.C k46 w A0_0 l0_0.length l0_0) (hc0_0 : l0_0.length ≤ c0_0) (hr0_1 : Kd.C k46 w A0_1 l0_1.length l0_1) (hc0_1 : l0_1.length ≤ c0_1) (h : stickfullaw15_FirstLines.f k l0_0 l0_1 a0_2 a0_3 a0_4 a0_5 = some r) (hr_ : r = true) :
  Calls Try.prog 3 #[.agg #[.slice A0_0 l0_0.length c0_0, .slice A0_1 l0_1.length c0_1, .int .i64 a0_2, .int .i64 a0_3, .int .i64 a0_4, .int .i64 a0_5]] w fun e w' => e = .returned (.bool r) ∧ Below w.heap.size w w' := by
 have hu26 := Try.underlying26
 have hu24 := Try.underlying24
 have HR_ := Aside0.mk hr_
 clear hr_
 have HR0_0 := Aside0.mk hr0_0
 have HC0_0 := Aside0.mk hc0_0
 clear hr0_0 hc0_0
 have HR0_1 := Aside0.mk hr0_1
 have HC0_1 := Aside0.mk hc0_1
 clear hr0_1 hc0_1
 have HB := Aside0.mk (Below.refl w.heap.size w)
 have H : ((stickfullaw15_great.f l0_0 l0_1 a0_2 a0_3 a0_4 a0_5).bind fun t409 => (if t409 = true then ((stickfullaw15_head.f k).bind fun t410 => (some t410)) else ((first_Lines.f k l0_0 l0_1 a0_2 a0_3 a0_4 a0_5).bind fun bt411 => ((stickfulref15_Lines.f k l0_0 l0_1 a0_2 a0_3 a0_4 a0_5).bind fun bt415 => ((stickfulref14_Same.f k bt411.1 bt415.1).bind fun t419 => (if t419 = true then (if bt411.2 = bt415.2 then ((first_Alike.f l0_0 l0_1).bind fun t420 => ((stickfulref15_Alike.f k l0_0 l0_1).bind fun t421 => (if (t420 == t421) = true then ((stickfullaw15_head.f k).bind fun t422 => (some t422)) else (some false)))) else (some false)) else (some false))))))) = some r := h
 clear h
 replace H := Option.bind_eq_some_iff.mp H
 obtain ⟨t409, A20, H⟩ := H
 replace H : (if t409 = true then ((stickfullaw15_head.f k).bind fun t410 => (some t410)) else ((first_Lines.f k l0_0 l0_1 a0_2 a0_3 a0_4 a0_5).bind fun bt411 => ((stickfulref15_Lines.f k l0_0 l0_1 a0_2 a0_3 a0_4 a0_5).bind fun bt415 => ((stickfulref14_Same.f k bt411.1 bt415.1).bind fun t419 => (if t419 = true then (if bt411.2 = bt415.2 then ((first_Alike.f l0_0 l0_1).bind fun t420 => ((stickfulref15_Alike.f k l0_0 l0_1).bind fun t421 => (if (t420 == t421) = true then ((stickfullaw15_head.f k).bind fun t422 => (some t422)) else (some false)))) else (some false)) else (some false)))))) = some r := H
 have A2 := Aside0.mk A20
 clear A20
 by_cases c3 : t409 = true
 ·subst c3
  have H1 : ((stickfullaw15_head.f k).bind fun t410 => (some t410)) = some r := by rw [if_pos rfl] at H; exact H
  clear H
  have H := H1
  clear H1
  replace H := Option.bind_eq_some_iff.mp H
  obtain ⟨t410, A40, H⟩ := H
  replace H : (some t410) = some r := H
  have A4 := Aside0.mk A40
  clear A40
  obtain rfl := Option.some.inj H
  go_enter Try.func3, Try.ntmps3
  go_wp2_with (first | ((with_reducible refine gate_dst (N := 1) rfl ?_); refine box_event ?hg (N := 1) ?hd (cs := #[.slice A0_0 l0_0.length c0_0, .slice A0_1 l0_1.length c0_1, .int .i64 a0_2, .int .i64 a0_3, .int .i64 a0_4, .int .i64 a0_5]) (t := 26) ?hr ?_; (case hd => rfl); (case hg => rfl); (case hr => first | (go_simp; done) | (go_simp; rfl)); intro gb408 hg w5 hbox hb; have BK408 := Aside0.mk (hbox); have GW408 := bge HB hg; have GE408 := bge HB hg; replace HB := bh HB hb; clear hb hbox hg; obtain ⟨hcz6_0, hcz6_1, hcz6_2, hcz6_3, hcz6_4, hcz6_5⟩ := cz6 BK408; obtain ⟨hfz6_0, hfz6_1, hfz6_2, hfz6_3, hfz6_4, hfz6_5⟩ := fz6 BK408) | ((with_reducible refine gate_callee (f := 7) rfl ?_); refine goesB (some 8) rfl rfl Try.func7 #[.agg #[.slice A0_0 l0_0.length c0_0, .slice A0_1 l0_1.length c0_1, .int .i64 a0_2, .int .i64 a0_3, .int .i64 a0_4, .int .i64 a0_5]] rfl ?_; (with_reducible refine (stickfullaw15_great.calls _ _ l0_0 _ _ l0_1 a0_2 a0_3 a0_4 a0_5 true _ ?side1 ?side2 ?side3 ?side4 A2.out).mono ?_); (case side1 => repeat (first | exact (Kd.C_below HR0_0.out HB.out) | (with_reducible refine Kd.C_alloc ?_ _) | (with_reducible refine Kd.C_drewN ?_ _) | (with_reducible refine Kd.C_drew ?_))); (case side2 => exact HC0_0.out); (case side3 => repeat (first | exact (Kd.C_below HR0_1.out HB.out) | (with_reducible refine Kd.C_alloc ?_ _) | (with_reducible refine Kd.C_drewN ?_ _) | (with_reducible refine Kd.C_drew ?_))); (case side4 => exact HC0_1.out); rintro e w7 ⟨rfl, hb⟩; refine ⟨_, rfl, ?_⟩; replace BK408 := bb BK408 hb; replace HB := bh HB hb; (try clear hb); (try clear hb2); (try clear hk); (try clear hi)) | ((with_reducible refine gate_callee (f := 8) rfl ?_); refine goesB (some 9) rfl rfl Try.func8 #[] rfl ?_; (with_reducible refine (stickfullaw15_head.calls k  t410 _ A4.out).mono ?_); rintro e w8 ⟨rfl, hb⟩; refine ⟨_, rfl, ?_⟩; replace BK408 := bb BK408 hb; replace HB := bh HB hb; (try clear hb); (try clear hb2); (try clear hk); (try clear hi)))
  go_ret
  exact ⟨by first | rfl | (simp [errW_none, errW_some] <;> rfl) | (simp [*, errW_none, errW_some] <;> rfl), by repeat (first | (with_reducible first | exact HB.out | apply below_alloc | apply pw_below_drewN | apply below_drew1 | refine below_set ?_ GE408.out) | exact HB.out)⟩
 ·replace c3 := Bool.eq_false_iff.mpr c3
  subst c3
  have H1 : ((first_Lines.f k l0_0 l0_1 a0_2 a0_3 a0_4 a0_5).bind fun bt411 => ((stickfulref15_Lines.f k l0_0 l0_1 a0_2 a0_3 a0_4 a0_5).bind fun bt415 => ((stickfulref14_Same.f k bt411.1 bt415.1).bind fun t419 => (if t419 = true then (if bt411.2 = bt415.2 then ((first_Alike.f l0_0 l0_1).bind fun t420 => ((stickfulref15_Alike.f k l0_0 l0_1).bind fun t421 => (if (t420 == t421) = true then ((stickfullaw15_head.f k).bind fun t422 => (some t422)) else (some false)))) else (some false)) else (some false))))) = some r := by rw [if_neg (show ¬ (false = true) by decide)] at H; exact H
  clear H
  have H := H1
  clear H1
  replace H := Option.bind_eq_some_iff.mp H
  obtain ⟨⟨t411, t414⟩, A90, H⟩ := H
  replace H : ((stickfulref15_Lines.f k l0_0 l0_1 a0_2 a0_3 a0_4 a0_5).bind fun bt415 => ((stickfulref14_Same.f k t411 bt415.1).bind fun t419 => (if t419 = true then (if t414 = bt415.2 then ((first_Alike.f l0_0 l0_1).bind fun t420 => ((stickfulref15_Alike.f k l0_0 l0_1).bind fun t421 => (if (t420 == t421) = true then ((stickfullaw15_head.f k).bind fun t422 => (some t422)) else (some false)))) else (some false)) else (some false)))) = some r := H
  have A9 := Aside0.mk A90
  clear A90
  replace H := Option.bind_eq_some_iff.mp H
  obtain ⟨⟨t415, t418⟩, A100, H⟩ := H
  replace H : ((stickfulref14_Same.f k t411 t415).bind fun t419 => (if t419 = true then (if t414 = t418 then ((first_Alike.f l0_0 l0_1).bind fun t420 => ((stickfulref15_Alike.f k l0_0 l0_1).bind fun t421 => (if (t420 == t421) = true then ((stickfullaw15_head.f k).bind fun t422 => (some t422)) else (some false)))) else (some false)) else (some false))) = some r := H
  have A10 := Aside0.mk A100
  clear A100
  replace H := Option.bind_eq_some_iff.mp H
  obtain ⟨t419, A110, H⟩ := H
  replace H : (if t419 = true then (if t414 = t418 then ((first_Alike.f l0_0 l0_1).bind fun t420 => ((stickfulref15_Alike.f k l0_0 l0_1).bind fun t421 => (if (t420 == t421) = true then ((stickfullaw15_head.f k).bind fun t422 => (some t422)) else (some false)))) else (some false)) else (some false)) = some r := H
  have A11 := Aside0.mk A110
  clear A110
  by_cases c12 : t419 = true
  ·subst c12
   have H1 : (if t414 = t418 then ((first_Alike.f l0_0 l0_1).bind fun t420 => ((stickfulref15_Alike.f k l0_0 l0_1).bind fun t421 => (if (t420 == t421) = true then ((stickfullaw15_head.f k).bind fun t422 => (some t422)) else (some false)))) else (some false)) = some r := by rw [if_pos rfl] at H; exact H
   clear H
   have H := H1
   clear H1
   by_cases c13 : t414 = t418
   ·rw [if_pos c13] at H
    have c13b0 : (t414 == t418) = true := beq_iff_eq.mpr c13
    have c13b1 : (t414 != t418) = false := bne_eq_false_iff_eq.mpr c13
    clear c13
    replace H := Option.bind_eq_some_iff.mp H
    obtain ⟨t420, A140, H⟩ := H
    replace H : ((stickfulref15_Alike.f k l0_0 l0_1).bind fun t421 => (if (t420 == t421) = true then ((stickfullaw15_head.f k).bind fun t422 => (some t422)) else (some false))) = some r := H
    have A14 := Aside0.mk A140
    clear A140
    replace H := Option.bind_eq_some_iff.mp H
    obtain ⟨t421, A150, H⟩ := H
    replace H : (if (t420 == t421) = true then ((stickfullaw15_head.f k).bind fun t422 => (some t422)) else (some false)) = some r := H
    have A15 := Aside0.mk A150
    clear A150
    by_cases c16 : (t420 == t421) = true
    ·rw [if_pos c16] at H
     have c16b0 : (t420 == t421) = true := c16
     (try (have c16b1 : decide (t420 = t421) = true := by simpa using c16))
     (try (have c16b2 : (t420 == t421) = true := by simpa using c16))
     clear c16
     replace H := Option.bind_eq_some_iff.mp H
     obtain ⟨t422, A170, H⟩ := H
     replace H : (some t422) = some r := H
     have A17 := Aside0.mk A170
     clear A170
     obtain rfl := Option.some.inj H
     go_enter Try.func3, Try.ntmps3
     try go_wp2_with (first | ((with_reducible refine gate_dst (N := 1) rfl ?_); refine box_event ?hg (N := 1) ?hd (cs := #[.slice A0_0 l0_0.length c0_0, .slice A0_1 l0_1.length c0_1, .int .i64 a0_2, .int .i64 a0_3, .int .i64 a0_4, .int .i64 a0_5]) (t := 26) ?hr ?_; (case hd => rfl); (case hg => rfl); (case hr => first | (go_simp; done) | (go_simp; rfl)); intro gb408 hg w18 hbox hb; have BK408 := Aside0.mk (hbox); have GW408 := bge HB hg; have GE408 := bge HB hg; replace HB := bh HB hb; clear hb hbox hg; obtain ⟨hcz19_0, hcz19_1, hcz19_2, hcz19_3, hcz19_4, hcz19_5⟩ := cz6 BK408; obtain ⟨hfz19_0, hfz19_1, hfz19_2, hfz19_3, hfz19_4, hfz19_5⟩ := fz6 BK408) | ((with_reducible refine gate_callee (f := 7) rfl ?_); refine goesB (some 8) rfl rfl Try.func7 #[.agg #[.slice A0_0 l0_0.length c0_0, .slice A0_1 l0_1.length c0_1, .int .i64 a0_2, .int .i64 a0_3, .int .i64 a0_4, .int .i64 a0_5]] rfl ?_; (with_reducible refine (stickfullaw15_great.calls _ _ l0_0 _ _ l0_1 a0_2 a0_3 a0_4 a0_5 false _ ?side1 ?side2 ?side3 ?side4 A2.out).mono ?_); (case side1 => repeat (first | exact (Kd.C_below HR0_0.out HB.out) | (with_reducible refine Kd.C_alloc ?_ _) | (with_reducible refine Kd.C_drewN ?_ _) | (with_reducible refine Kd.C_drew ?_))); (case side2 => exact HC0_0.out); (case side3 => repeat (first | exact (Kd.C_below HR0_1.out HB.out) | (with_reducible refine Kd.C_alloc ?_ _) | (with_reducible refine Kd.C_drewN ?_ _) | (with_reducible refine Kd.C_drew ?_))); (case side4 => exact HC0_1.out); rintro e w20 ⟨rfl, hb⟩; refine ⟨_, rfl, ?_⟩; replace BK408 := bb BK408 hb; replace HB := bh HB hb; (try clear hb); (try clear hb2); (try clear hk); (try clear hi); obtain ⟨hcz21_0, hcz21_1, hcz21_2, hcz21_3, hcz21_4, hcz21_5⟩ := cz6 BK408; obtain ⟨hfz21_0, hfz21_1, hfz21_2, hfz21_3, hfz21_4, hfz21_5⟩ := fz6 BK408) | ((with_reducible refine gate_callee (f := 9) rfl ?_); refine goesB (some 19) rfl rfl Try.func9 #[.slice A0_0 l0_0.length c0_0, .slice A0_1 l0_1.length c0_1, .agg #[.int .i64 a0_2, .int .i64 a0_3], .agg #[.int .i64 a0_4, .int .i64 a0_5]] rfl ?_; (with_reducible refine (first_Lines.calls k _ _ l0_0 _ _ l0_1 a0_2 a0_3 a0_4 a0_5 t411 t414 _ ?side1 ?side2 ?side3 ?side4 A9.out).mono ?_); (case side1 => repeat (first | exact (Kd.C_below HR0_0.out HB.out) | (with_reducible refine Kd.C_alloc ?_ _) | (with_reducible refine Kd.C_drewN ?_ _) | (with_reducible refine Kd.C_drew ?_))); (case side2 => exact HC0_0.out); (case side3 => repeat (first | exact (Kd.C_below HR0_1.out HB.out) | (with_reducible refine Kd.C_alloc ?_ _) | (with_reducible refine Kd.C_drewN ?_ _) | (with_reducible refine Kd.C_drew ?_))); (case side4 => exact HC0_1.out); rintro e w22 ⟨v412, rfl, ho0, hb⟩; refine ⟨_, rfl, ?_⟩; have HO413 := Aside0.mk (Kd.R_lower ho0 (below_size (bw HB))); replace BK408 := bb BK408 hb; replace HB := bh HB hb; (try clear hb); (try clear hb2); (try clear hk); (try clear hi); (try clear ho0); obtain ⟨hcz23_0, hcz23_1, hcz23_2, hcz23_3, hcz23_4, hcz23_5⟩ := cz6 BK408; obtain ⟨hfz23_0, hfz23_1, hfz23_2, hfz23_3, hfz23_4, hfz23_5⟩ := fz6 BK408) | ((with_reducible refine gate_callee (f := 10) rfl ?_); refine goesB (some 31) rfl rfl Try.func10 #[.slice A0_0 l0_0.length c0_0, .slice A0_1 l0_1.length c0_1, .agg #[.int .i64 a0_2, .int .i64 a0_3], .agg #[.int .i64 a0_4, .int .i64 a0_5]] rfl ?_; (with_reducible refine (stickfulref15_Lines.calls k _ _ l0_0 _ _ l0_1 a0_2 a0_3 a0_4 a0_5 t415 t418 _ ?side1 ?side2 ?side3 ?side4 A10.out).mono ?_); (case side1 => repeat (first | exact (Kd.C_below HR0_0.out HB.out) | (with_reducible refine Kd.C_alloc ?_ _) | (with_reducible refine Kd.C_drewN ?_ _) | (with_reducible refine Kd.C_drew ?_))); (case side2 => exact HC0_0.out); (case side3 => repeat (first | exact (Kd.C_below HR0_1.out HB.out) | (with_reducible refine Kd.C_alloc ?_ _) | (with_reducible refine Kd.C_drewN ?_ _) | (with_reducible refine Kd.C_drew ?_))); (case side4 => exact HC0_1.out); rintro e w24 ⟨v416, rfl, ho0, hb⟩; refine ⟨_, rfl, ?_⟩; have HO417 := Aside0.mk (Kd.R_lower (Kd.R_new' ho0 (Kd.R_lt (rx HO413))) (below_size (bw HB))); replace HO413 := Aside0.mk (Kd.R_elder' (rx HO413) (Kd.R_base ho0) hb); replace BK408 := bb BK408 hb; replace HB := bh HB hb; (try clear hb); (try clear hb2); (try clear hk); (try clear hi); (try clear ho0)))
     replace HO413 := Aside0.mk (Kd.R_drew HO413.out)
     replace HO417 := Aside0.mk (Kd.R_drew HO417.out)
     replace BK408 := Aside0.mk (blk_drew BK408.out)
     replace HB := Aside0.mk (below_drew1 HB.out)
     obtain ⟨Ao26, co26, eo26⟩ := Kd.R_slice HO413.out
     (first | subst eo26 | (injection eo26 with f1_ f2_ f3_; have f4_ := f1_.symm; have f5_ := f3_.symm; clear f1_ f2_ f3_; subst f4_; subst f5_))
     obtain ⟨Ao27, co27, eo27⟩ := Kd.R_slice HO417.out
     (first | subst eo27 | (injection eo27 with f1_ f2_ f3_; have f4_ := f1_.symm; have f5_ := f3_.symm; clear f1_ f2_ f3_; subst f4_; subst f5_))
     refine start_ (n := 25) (S := fun w' => w'.cell? ⟨gb408, 0, none⟩ = some (.slice A0_0 l0_0.length c0_0) ∧ w'.cell? ⟨gb408, 1, none⟩ = some (.slice A0_1 l0_1.length c0_1) ∧ w'.cell? ⟨gb408, 2, none⟩ = some (.int .i64 a0_2) ∧ w'.cell? ⟨gb408, 3, none⟩ = some (.int .i64 a0_3) ∧ w'.cell? ⟨gb408, 4, none⟩ = some (.int .i64 a0_4) ∧ w'.cell? ⟨gb408, 5, none⟩ = some (.int .i64 a0_5)) (ds := []) (stickfullaw15_FirstLines.bm 25 0) (by kernel_rfl) rfl rfl ⟨bc BK408 0, bc BK408 1, bc BK408 2, bc BK408 3, bc BK408 4, bc BK408 5⟩ (fun hHeld => ?_); refine with_tabW stickfullaw15_FirstLines.tab5 stickfullaw15_FirstLines.bits5 (fun HT_ HW_ => ?_)
     generalize w24.drew = w25 at HO413 HO417 BK408 HB hHeld ⊢
     refine pure_ (i := 0) (N := some 34) (v := ?_) (a' := ?_) (stickfullaw15_FirstLines.bm 25 1) rfl rfl (any_of HT_.out (by kernel_rfl)) (fun _ _ _ h => h) (Or.inl ⟨by rfl, ?_⟩) ?_ ?_
     rotate_left; (focus intro w'; go_simp; with_reducible rfl); rotate_left; (focus simp only [Act.put, List.setIfInBounds_toArray, List.set_cons_zero, List.set_cons_succ, i64_w, i32_w]; rfl)
     refine pure_ (i := 1) (N := some 35) (v := ?_) (a' := ?_) (stickfullaw15_FirstLines.bm 25 3) rfl rfl (any_of HT_.out (by kernel_rfl)) (fun _ _ _ h => h) (Or.inl ⟨by rfl, ?_⟩) ?_ ?_
     rotate_left; (focus intro w'; go_simp; with_reducible rfl); rotate_left; (focus simp only [Act.put, List.setIfInBounds_toArray, List.set_cons_zero, List.set_cons_succ, i64_w, i32_w]; rfl)
     refine one_ (i := 2) (N := some 36) (stickfullaw15_FirstLines.bm 25 7) rfl rfl (one_of HT_.out (by kernel_rfl)) (by decide) (fun K hK => ?_)
     refine goes_ Try.func11 (by kernel_rfl) rfl #[.slice Ao26 t411.length co26, .slice Ao27 t415.length co27] (by rfl) rfl rfl (by (try simp only [List.map_toArray, List.map_cons, List.map_nil]); first | done | rfl | (simp only [List.length_drop, List.length_take]; rfl)) ?_
     with_reducible refine (stickfulref14_Same.calls k _ _ t411 _ _ t415 true _ ?side1 ?side2 ?side3 ?side4 A11.out).mono ?_
     (case side1 => repeat (first | exact (Kd.R_reads' HO413.out).2.2 | (with_reducible refine Kd.C_alloc ?_ _) | (with_reducible refine Kd.C_drewN ?_ _) | (with_reducible refine Kd.C_drew ?_)))
     (case side2 => exact (Kd.R_reads' HO413.out).2.1)
     (case side3 => repeat (first | exact (Kd.R_reads' HO417.out).2.2 | (with_reducible refine Kd.C_alloc ?_ _) | (with_reducible refine Kd.C_drewN ?_ _) | (with_reducible refine Kd.C_drew ?_)))
     (case side4 => exact (Kd.R_reads' HO417.out).2.1)
     rintro e w' ⟨rfl, ⟨nd, rfl⟩⟩
     refine ⟨_, rfl, ?_⟩
     refine hK.out _ _ ⟨bc BK408 0, bc BK408 1, bc BK408 2, bc BK408 3, bc BK408 4, bc BK408 5⟩ (fun hHeld => ?_)
     clear hK K
     refine norm_ (a' := ?_) ?_ ?_
     rotate_left; (focus show Act.put _ (some 36) _ = _; simp only [Act.put, List.setIfInBounds_toArray, List.set_cons_zero, List.set_cons_succ, i64_w, i32_w]; rfl)
     refine pure_ (i := 3) (N := some 37) (v := ?_) (a' := ?_) (stickfullaw15_FirstLines.bm 25 15) rfl rfl (any_of HT_.out (by kernel_rfl)) (fun _ _ _ h => h) (Or.inl ⟨by rfl, ?_⟩) ?_ ?_
     rotate_left; (focus intro w'; go_simp; with_reducible rfl); rotate_left; (focus simp only [Act.put, List.setIfInBounds_toArray, List.set_cons_zero, List.set_cons_succ, i64_w, i32_w]; rfl)
     refine pure_ (i := 4) (N := some 38) (v := ?_) (a' := ?_) (stickfullaw15_FirstLines.bm 25 31) rfl rfl (any_of HT_.out (by kernel_rfl)) (fun _ _ _ h => h) (Or.inl ⟨by rfl, ?_⟩) ?_ ?_
     rotate_left; (focus intro w'; go_simp; with_reducible rfl); rotate_left; (focus simp only [Act.put, List.setIfInBounds_toArray, List.set_cons_zero, List.set_cons_succ, i64_w, i32_w]; rfl)
     refine pure_ (i := 5) (N := some 39) (v := ?_) (a' := ?_) (stickfullaw15_FirstLines.bm 25 63) rfl rfl (any_of HT_.out (by kernel_rfl)) (fun _ _ _ h => h) (Or.inl ⟨by rfl, ?_⟩) ?_ ?_
     rotate_left; (focus intro w'; go_simp; with_reducible rfl); rotate_left; (focus simp only [Act.put, List.setIfInBounds_toArray, List.set_cons_zero, List.set_cons_succ, i64_w, i32_w]; rfl)
     refine pure_ (i := 6) (N := some 40) (v := ?_) (a' := ?_) (stickfullaw15_FirstLines.bm 25 127) rfl rfl (any_of HT_.out (by kernel_rfl)) (fun _ _ _ h => h) (Or.inl ⟨by rfl, ?_⟩) ?_ ?_
     rotate_left; (focus intro w'; go_simp; with_reducible rfl); rotate_left; (focus simp only [Act.put, List.setIfInBounds_toArray, List.set_cons_zero, List.set_cons_succ, i64_w, i32_w]; rfl)
     refine pure_ (i := 7) (N := some 41) (v := ?_) (a' := ?_) (stickfullaw15_FirstLines.bm 25 255) rfl rfl (any_of HT_.out (by kernel_rfl)) (fun _ _ _ h => h) (Or.inl ⟨by rfl, ?_⟩) ?_ ?_
     rotate_left; (focus intro w'; go_simp; with_reducible rfl); rotate_left; (focus simp only [Act.put, List.setIfInBounds_toArray, List.set_cons_zero, List.set_cons_succ, i64_w, i32_w]; rfl)
     refine pure_ (i := 8) (N := some 42) (v := ?_) (a' := ?_) (stickfullaw15_FirstLines.bm 25 511) rfl rfl (any_of HT_.out (by kernel_rfl)) (fun _ _ _ h => h) (Or.inl ⟨by rfl, ?_⟩) ?_ ?_
     rotate_left; (focus intro w'; go_simp; with_reducible rfl); rotate_left; (focus simp only [Act.put, List.setIfInBounds_toArray, List.set_cons_zero, List.set_cons_succ, i64_w, i32_w]; rfl)
     refine pure_ (i := 9) (N := some 43) (v := ?_) (a' := ?_) (stickfullaw15_FirstLines.bm 25 1023) rfl rfl (any_of HT_.out (by kernel_rfl)) (fun _ _ _ h => h) (Or.inl ⟨by rfl, ?_⟩) ?_ ?_
     rotate_left; (focus intro w'; go_simp; with_reducible rfl); rotate_left; (focus simp only [Act.put, List.setIfInBounds_toArray, List.set_cons_zero, List.set_cons_succ, i64_w, i32_w]; rfl)
     refine pure_ (i := 11) (N := some 45) (v := ?_) (a' := ?_) (stickfullaw15_FirstLines.bm 25 3071) rfl rfl (any_of HT_.out (by kernel_rfl)) (fun _ _ _ h => h) (Or.inl ⟨by rfl, ?_⟩) ?_ ?_
     rotate_left; (focus intro w'; go_simp; with_reducible rfl); rotate_left; (focus simp only [Act.put, List.setIfInBounds_toArray, List.set_cons_zero, List.set_cons_succ, i64_w, i32_w]; rfl)
     refine pure_ (i := 14) (N := some 48) (v := ?_) (a' := ?_) (stickfullaw15_FirstLines.bm 25 19455) rfl rfl (any_of HT_.out (by kernel_rfl)) (fun _ _ _ h => h) (Or.inl ⟨by rfl, ?_⟩) ?_ ?_
     rotate_left; (focus intro w'; go_simp; with_reducible rfl); rotate_left; (focus simp only [Act.put, List.setIfInBounds_toArray, List.set_cons_zero, List.set_cons_succ, i64_w, i32_w]; rfl)
     refine pure_ (i := 16) (N := some 50) (v := ?_) (a' := ?_) (stickfullaw15_FirstLines.bm 25 84991) rfl rfl (any_of HT_.out (by kernel_rfl)) (fun _ _ _ h => h) (Or.inl ⟨by rfl, ?_⟩) ?_ ?_
     rotate_left; (focus intro w'; go_simp; with_reducible rfl); rotate_left; (focus simp only [Act.put, List.setIfInBounds_toArray, List.set_cons_zero, List.set_cons_succ, i64_w, i32_w]; rfl)
     refine take_ (i := 10) (N := some 44) (v := ?_) (a' := ?_) (stickfullaw15_FirstLines.bm 25 86015) rfl rfl (take_ofW HT_.out HW_.out (by kernel_rfl)) (fun _ _ _ h => h) (Or.inl ⟨by rfl, ?_⟩) hHeld ?_ ?_
     rotate_left; (focus rintro w' ⟨s0, s1, s2, s3, s4, s5⟩; go_simp; with_reducible rfl); rotate_left; (focus simp only [Act.put, List.setIfInBounds_toArray, List.set_cons_zero, List.set_cons_succ, i64_w, i32_w]; rfl)
     refine take_ (i := 12) (N := some 46) (v := ?_) (a' := ?_) (stickfullaw15_FirstLines.bm 25 90111) rfl rfl (take_ofW HT_.out HW_.out (by kernel_rfl)) (fun _ _ _ h => h) (Or.inl ⟨by rfl, ?_⟩) hHeld ?_ ?_
     rotate_left; (focus rintro w' ⟨s0, s1, s2, s3, s4, s5⟩; go_simp; with_reducible rfl); rotate_left; (focus simp only [Act.put, List.setIfInBounds_toArray, List.set_cons_zero, List.set_cons_succ, i64_w, i32_w]; rfl)
     refine take_ (i := 15) (N := some 49) (v := ?_) (a' := ?_) (stickfullaw15_FirstLines.bm 25 122879) rfl rfl (take_ofW HT_.out HW_.out (by kernel_rfl)) (fun _ _ _ h => h) (Or.inl ⟨by rfl, ?_⟩) hHeld ?_ ?_
     rotate_left; (focus rintro w' ⟨s0, s1, s2, s3, s4, s5⟩; go_simp; with_reducible rfl); rotate_left; (focus simp only [Act.put, List.setIfInBounds_toArray, List.set_cons_zero, List.set_cons_succ, i64_w, i32_w]; rfl)
     refine take_ (i := 17) (N := some 51) (v := ?_) (a' := ?_) (stickfullaw15_FirstLines.bm 25 253951) rfl rfl (take_ofW HT_.out HW_.out (by kernel_rfl)) (fun _ _ _ h => h) (Or.inl ⟨by rfl, ?_⟩) hHeld ?_ ?_
     rotate_left; (focus rintro w' ⟨s0, s1, s2, s3, s4, s5⟩; go_simp; with_reducible rfl); rotate_left; (focus simp only [Act.put, List.setIfInBounds_toArray, List.set_cons_zero, List.set_cons_succ, i64_w, i32_w]; rfl)
     refine one_ (i := 13) (N := some 47) (stickfullaw15_FirstLines.bm 25 262143) rfl rfl (one_of HT_.out (by kernel_rfl)) (by decide) (fun K hK => ?_)
     refine goes_ Try.func12 (by kernel_rfl) rfl #[.slice A0_0 l0_0.length c0_0, .slice A0_1 l0_1.length c0_1] (by rfl) rfl rfl (by (try simp only [List.map_toArray, List.map_cons, List.map_nil]); first | done | rfl | (simp only [List.length_drop, List.length_take]; rfl)) ?_
     with_reducible refine (first_Alike.calls _ _ l0_0 _ _ l0_1 t420 _ ?side1 ?side2 ?side3 ?side4 A14.out).mono ?_
     (case side1 => repeat (first | exact (Kd.C_below HR0_0.out (bw HB)) | (with_reducible refine Kd.C_alloc ?_ _) | (with_reducible refine Kd.C_drewN ?_ _) | (with_reducible refine Kd.C_drew ?_)))
     (case side2 => exact HC0_0.out)
     (case side3 => repeat (first | exact (Kd.C_below HR0_1.out (bw HB)) | (with_reducible refine Kd.C_alloc ?_ _) | (with_reducible refine Kd.C_drewN ?_ _) | (with_reducible refine Kd.C_drew ?_)))
     (case side4 => exact HC0_1.out)
     rintro e w28 ⟨rfl, hb⟩
     refine ⟨_, rfl, ?_⟩
     replace HO413 := Aside0.mk (Kd.R_below (rx HO413) hb)
     replace HO417 := Aside0.mk (Kd.R_below (rx HO417) hb)
     replace BK408 := bb BK408 hb
     replace HB := bh HB hb
     (try clear hb)
     (try clear hb2)
     (try clear hk)
     (try clear hi)
     refine hK.out _ _ ⟨bc BK408 0, bc BK408 1, bc BK408 2, bc BK408 3, bc BK408 4, bc BK408 5⟩ (fun hHeld => ?_)
     clear hK K
     refine norm_ (a' := ?_) ?_ ?_
     rotate_left; (focus show Act.put _ (some 47) _ = _; simp only [Act.put, List.setIfInBounds_toArray, List.set_cons_zero, List.set_cons_succ, i64_w, i32_w]; rfl)
     refine one_ (i := 18) (N := some 52) (stickfullaw15_FirstLines.bm 25 524287) rfl rfl (one_of HT_.out (by kernel_rfl)) (by decide) (fun K hK => ?_)
     refine goes_ Try.func13 (by kernel_rfl) rfl #[.slice A0_0 l0_0.length c0_0, .slice A0_1 l0_1.length c0_1] (by rfl) rfl rfl (by (try simp only [List.map_toArray, List.map_cons, List.map_nil]); first | done | rfl | (simp only [List.length_drop, List.length_take]; rfl)) ?_
     with_reducible refine (stickfulref15_Alike.calls k _ _ l0_0 _ _ l0_1 t421 _ ?side1 ?side2 ?side3 ?side4 A15.out).mono ?_
     (case side1 => repeat (first | exact (Kd.C_below HR0_0.out HB.out) | (with_reducible refine Kd.C_alloc ?_ _) | (with_reducible refine Kd.C_drewN ?_ _) | (with_reducible refine Kd.C_drew ?_)))
     (case side2 => exact HC0_0.out)
     (case side3 => repeat (first | exact (Kd.C_below HR0_1.out HB.out) | (with_reducible refine Kd.C_alloc ?_ _) | (with_reducible refine Kd.C_drewN ?_ _) | (with_reducible refine Kd.C_drew ?_)))
     (case side4 => exact HC0_1.out)
     rintro e w' ⟨rfl, ⟨nd, rfl⟩⟩
     refine ⟨_, rfl, ?_⟩
     refine hK.out _ _ ⟨bc BK408 0, bc BK408 1, bc BK408 2, bc BK408 3, bc BK408 4, bc BK408 5⟩ (fun hHeld => ?_)
     clear hK K
     refine norm_ (a' := ?_) ?_ ?_
     rotate_left; (focus show Act.put _ (some 52) _ = _; simp only [Act.put, List.setIfInBounds_toArray, List.set_cons_zero, List.set_cons_succ, i64_w, i32_w]; rfl)
     refine pure_ (i := 19) (N := some 53) (v := ?_) (a' := ?_) (stickfullaw15_FirstLines.bm 25 1048575) rfl rfl (any_of HT_.out (by kernel_rfl)) (fun _ _ _ h => h) (Or.inl ⟨by rfl, ?_⟩) ?_ ?_
     rotate_left; (focus intro w'; go_simp; with_reducible rfl); rotate_left; (focus simp only [Act.put, List.setIfInBounds_toArray, List.set_cons_zero, List.set_cons_succ, i64_w, i32_w]; rfl)
     refine pure_ (i := 20) (N := some 54) (v := ?_) (a' := ?_) (stickfullaw15_FirstLines.bm 25 2097151) rfl rfl (any_of HT_.out (by kernel_rfl)) (fun _ _ _ h => h) (Or.inl ⟨by rfl, ?_⟩) ?_ ?_
     rotate_left; (focus intro w'; go_simp; with_reducible rfl); rotate_left; (focus simp only [Act.put, List.setIfInBounds_toArray, List.set_cons_zero, List.set_cons_succ, i64_w, i32_w]; rfl)
     refine pure_ (i := 21) (N := some 55) (v := ?_) (a' := ?_) (stickfullaw15_FirstLines.bm 25 4194303) rfl rfl (any_of HT_.out (by kernel_rfl)) (fun _ _ _ h => h) (Or.inl ⟨by rfl, ?_⟩) ?_ ?_
     rotate_left; (focus intro w'; go_simp; with_reducible rfl); rotate_left; (focus simp only [Act.put, List.setIfInBounds_toArray, List.set_cons_zero, List.set_cons_succ, i64_w, i32_w]; rfl)
     refine one_ (i := 22) (N := some 56) (stickfullaw15_FirstLines.bm 25 8388607) rfl rfl (one_of HT_.out (by kernel_rfl)) (by decide) (fun K hK => ?_)
     refine goes_ Try.func8 (by kernel_rfl) rfl #[] (by rfl) rfl rfl (by (try simp only [List.map_toArray, List.map_cons, List.map_nil]); first | done | rfl | (simp only [List.length_drop, List.length_take]; rfl)) ?_
     with_reducible refine (stickfullaw15_head.calls k  t422 _ A17.out).mono ?_
     rintro e w29 ⟨rfl, hb⟩
     refine ⟨_, rfl, ?_⟩
     replace HO413 := Aside0.mk (Kd.R_below (rx HO413) hb)
     replace HO417 := Aside0.mk (Kd.R_below (rx HO417) hb)
     replace BK408 := bb BK408 hb
     replace HB := bh HB hb
     (try clear hb)
     (try clear hb2)
     (try clear hk)
     (try clear hi)
     refine hK.out _ _ ⟨bc BK408 0, bc BK408 1, bc BK408 2, bc BK408 3, bc BK408 4, bc BK408 5⟩ (fun hHeld => ?_)
     clear hK K
     refine norm_ (a' := ?_) ?_ ?_
     rotate_left; (focus show Act.put _ (some 56) _ = _; simp only [Act.put, List.setIfInBounds_toArray, List.set_cons_zero, List.set_cons_succ, i64_w, i32_w]; rfl)
     refine pure_ (i := 23) (N := some 57) (v := ?_) (a' := ?_) (stickfullaw15_FirstLines.bm 25 16777215) rfl rfl (any_of HT_.out (by kernel_rfl)) (fun _ _ _ h => h) (Or.inl ⟨by rfl, ?_⟩) ?_ ?_
     rotate_left; (focus intro w'; go_simp; with_reducible rfl); rotate_left; (focus simp only [Act.put, List.setIfInBounds_toArray, List.set_cons_zero, List.set_cons_succ, i64_w, i32_w]; rfl)
     refine pure_ (i := 24) (N := some 2) (v := ?_) (a' := ?_) (stickfullaw15_FirstLines.bm 25 33554431) rfl rfl (any_of HT_.out (by kernel_rfl)) (fun _ _ _ h => h) (Or.inl ⟨by rfl, ?_⟩) ?_ ?_
     rotate_left; (focus intro w'; go_simp; with_reducible rfl); rotate_left; (focus simp only [Act.put, List.setIfInBounds_toArray, List.set_cons_zero, List.set_cons_succ, i64_w, i32_w]; rfl)
     refine done_ (done_of HT_.out (by kernel_rfl)) ?_
     try go_wp2
     go_ret
     exact ⟨by first | rfl | (simp [errW_none, errW_some] <;> rfl) | (simp [*, errW_none, errW_some] <;> rfl), by repeat (first | (with_reducible first | exact HB.out | apply below_alloc | apply pw_below_drewN | apply below_drew1 | refine below_set ?_ GE408.out) | exact HB.out)⟩
    ·rw [if_neg c16] at H
     have c16b0 : (t420 == t421) = false := by simpa using c16
     (try (have c16b1 : decide (t420 = t421) = false := by simpa using c16))
     (try (have c16b2 : (t420 == t421) = false := by simpa using c16))
     (try (have c16b3 : ¬ (t420 = t421) := by simpa using c16))
     clear c16
     exact absurd ((Option.some.inj H).trans HR_.out) (by decide)
   ·rw [if_neg c13] at H
    have c13b0 : (t414 == t418) = false := beq_eq_false_iff_ne.mpr c13
    have c13b1 : (t414 != t418) = true := bne_iff_ne.mpr c13
    exact absurd ((Option.some.inj H).trans HR_.out) (by decide)
  ·replace c12 := Bool.eq_false_iff.mpr c12
   subst c12
   have H1 : (some false) = some r := by rw [if_neg (show ¬ (false = true) by decide)] at H; exact H
   clear H
   have H := H1
   clear H1
   exact absurd ((Option.some.inj H).trans HR_.out) (by decide)

end Go.Proofs.Ytdmlnkgpjileaaa.HFirst
