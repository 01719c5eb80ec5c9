-- Written by this claim's own program over the kit's print.
import Derived.Test.YtkaiibipcnlaiaaHEllb
import Derived.Test.YtkaiibipcnlaiaaHEllx0
import Derived.Test.YtkaiibipcnlaiaaHEllx1
import Derived.Test.YtkaiibipcnlaiaaHEllx2
import Derived.Test.YtkaiibipcnlaiaaHEllx14
import Derived.Test.YtkaiibipcnlaiaaHEllx15
import Derived.Test.YtkaiibipcnlaiaaHEllx19
import Derived.Test.YtkaiibipcnlaiaaHEllx20
namespace Go.Proofs.Ytkaiibipcnlaiaa.HEll
open Go.RowKit Go.Proofs.YtkaiibipcnlaiaaW.PrintWords Go.Proofs.YtkaiibipcnlaiaaW.PrintLast Go.Proofs.YtkaiibipcnlaiaaW.PrintMore Go.Proofs.Ytkaiibipcnlaiaa.Hand
attribute [local go_sem] max2_int min2_int max_two min_two max_three min_three max_four min_four   -- for this text's walks alone
set_option linter.unusedVariables false
set_option linter.unusedSimpArgs false

/-! ### stickfullaw26_EllipsisTells: function 3 -/
def stickfullaw26_EllipsisTells.f (k : Nat) (l0_0 : List (S53)) (l0_1 : List Bool) (a0_2 a0_3 : Int) (a0_4 : Bool) (a0_5 a1_0 a1_1 : Int) : Option (Bool) := (stickfullaw26_great.f l0_0 l0_1 a0_2 a0_3 a0_4 a0_5).bind fun t300 => (if t300 = true then ((stickfullaw26_head.f k).bind fun t301 => (some t301)) else ((ellipsis_Cut.f l0_0 l0_1 a0_2 a0_3 a0_4 a1_0 a1_1 a0_5).bind fun bt302 => ((stickfulref26_Cut.f k l0_0 l0_1 a0_2 a0_3 a0_4 a1_0 a1_1 a0_5).bind fun bt306 => ((ellipsis_Places.f k l0_0 l0_1 a0_2 a0_3 a0_4).bind fun bt310 => ((stickfulref26_Places.f k l0_0 l0_1 a0_2 a0_3 a0_4).bind fun bt314 => (if bt302.1 = bt306.1 then (if bt302.2.1 = bt306.2.1 then (if (bt302.2.2.1 == bt306.2.2.1) = true then (if bt302.2.2.2 = bt306.2.2.2 then ((stickfulref26_SameInts.f k bt310.1 bt314.1).bind fun t318 => (if t318 = true then (if bt310.2 = bt314.2 then ((stickfullaw26_head.f k).bind fun t319 => (some t319)) else (some false)) else (some false))) else (some false)) else (some false)) else (some false)) else (some false)))))))
theorem stickfullaw26_EllipsisTells.mono : ∀ a0 a1 a2 a3 a4 a5 a6 a7 k, LeO (stickfullaw26_EllipsisTells.f k a0 a1 a2 a3 a4 a5 a6 a7) (stickfullaw26_EllipsisTells.f (k + 1) a0 a1 a2 a3 a4 a5 a6 a7) := by
 intro a0 a1 a2 a3 a4 a5 a6 a7 k
 unfold stickfullaw26_EllipsisTells.f
 repeat' first
   | (with_reducible exact ellipsis_Places.mono _ _ _ _ _ _)
   | (with_reducible exact stickfullaw26_head.mono _)
   | (with_reducible exact stickfulref26_Cut.mono _ _ _ _ _ _ _ _ _)
   | (with_reducible exact stickfulref26_Places.mono _ _ _ _ _ _)
   | (with_reducible exact stickfulref26_SameInts.mono _ _ _)
   | (with_reducible exact LeO.refl _)
   | (with_reducible exact LeO.none _)
   | (with_reducible refine LeO.ite ?_ ?_)
   | (with_reducible refine LeO.bind ?_ (fun _ => ?_))
   | exact ellipsis_Places.mono _ _ _ _ _ _
   | exact stickfullaw26_head.mono _
   | exact stickfulref26_Cut.mono _ _ _ _ _ _ _ _ _
   | exact stickfulref26_Places.mono _ _ _ _ _ _
   | exact stickfulref26_SameInts.mono _ _ _
   | exact LeO.none _
   | refine LeO.ite ?_ ?_
   | refine LeO.bind ?_ (fun _ => ?_)
set_option maxHeartbeats 8000000 in
set_option maxRecDepth 100000 in
theorem stickfullaw26_EllipsisTells.calls_t (k : Nat) (A0_0 : Option Addr) (c0_0 : Nat) (l0_0 : List (S53)) (A0_1 : Option Addr) (c0_1 : Nat) (l0_1 : List Bool) (a0_2 a0_3 : Int) (a0_4 : Bool) (a0_5 a1_0 a1_1 : Int) (r : Bool) (w : World) (hr0_0 : Kd.C k53 w A0_0 l0_0.length l0_0) (hc0_0 : l0_0.length ≤ c0_0) (hr0_1 : Kd.C Kd.bool w A0_1 l0_1.length l0_1) (hc0_1 : l0_1.length ≤ c0_1) (h : stickfullaw26_EllipsisTells.f k l0_0 l0_1 a0_2 a0_3 a0_4 a0_5 a1_0 a1_1 = some r) (hr_ : r = true) :
  Calls Try.prog 3 #[.agg #[.slice A0_0 l0_0.length c0_0, .slice A0_1 l0_1.length c0_1, .int .i64 a0_2, .int .i64 a0_3, .bool a0_4, .int .i64 a0_5], .agg #[.int .i64 a1_0, .int .i64 a1_1]] w fun e w' => e = .returned (.bool r) ∧ Below w.heap.size w w' := by
 have hu27 := Try.underlying27
 have hu29 := Try.underlying29
 have hu25 := Try.underlying25
 have HR_ := Aside0.mk hr_
 clear hr_
 have HR0_0 := Aside0.mk hr0_0
 have HC0_0 := Aside0.mk hc0_0
 clear hr0_0 hc0_0
 have HR0_1 := Aside0.mk hr0_1
 have HC0_1 := Aside0.mk hc0_1
 clear hr0_1 hc0_1
 have HB := Aside0.mk (Below.refl w.heap.size w)
 have H : ((stickfullaw26_great.f l0_0 l0_1 a0_2 a0_3 a0_4 a0_5).bind fun t300 => (if t300 = true then ((stickfullaw26_head.f k).bind fun t301 => (some t301)) else ((ellipsis_Cut.f l0_0 l0_1 a0_2 a0_3 a0_4 a1_0 a1_1 a0_5).bind fun bt302 => ((stickfulref26_Cut.f k l0_0 l0_1 a0_2 a0_3 a0_4 a1_0 a1_1 a0_5).bind fun bt306 => ((ellipsis_Places.f k l0_0 l0_1 a0_2 a0_3 a0_4).bind fun bt310 => ((stickfulref26_Places.f k l0_0 l0_1 a0_2 a0_3 a0_4).bind fun bt314 => (if bt302.1 = bt306.1 then (if bt302.2.1 = bt306.2.1 then (if (bt302.2.2.1 == bt306.2.2.1) = true then (if bt302.2.2.2 = bt306.2.2.2 then ((stickfulref26_SameInts.f k bt310.1 bt314.1).bind fun t318 => (if t318 = true then (if bt310.2 = bt314.2 then ((stickfullaw26_head.f k).bind fun t319 => (some t319)) else (some false)) else (some false))) else (some false)) else (some false)) else (some false)) else (some false)))))))) = some r := h
 clear h
 replace H := Option.bind_eq_some_iff.mp H
 obtain ⟨t300, A30, H⟩ := H
 replace H : (if t300 = true then ((stickfullaw26_head.f k).bind fun t301 => (some t301)) else ((ellipsis_Cut.f l0_0 l0_1 a0_2 a0_3 a0_4 a1_0 a1_1 a0_5).bind fun bt302 => ((stickfulref26_Cut.f k l0_0 l0_1 a0_2 a0_3 a0_4 a1_0 a1_1 a0_5).bind fun bt306 => ((ellipsis_Places.f k l0_0 l0_1 a0_2 a0_3 a0_4).bind fun bt310 => ((stickfulref26_Places.f k l0_0 l0_1 a0_2 a0_3 a0_4).bind fun bt314 => (if bt302.1 = bt306.1 then (if bt302.2.1 = bt306.2.1 then (if (bt302.2.2.1 == bt306.2.2.1) = true then (if bt302.2.2.2 = bt306.2.2.2 then ((stickfulref26_SameInts.f k bt310.1 bt314.1).bind fun t318 => (if t318 = true then (if bt310.2 = bt314.2 then ((stickfullaw26_head.f k).bind fun t319 => (some t319)) else (some false)) else (some false))) else (some false)) else (some false)) else (some false)) else (some false))))))) = some r := H
 have A3 := Aside0.mk A30
 clear A30
 by_cases c4 : t300 = true
 ·subst c4
  have H1 : ((stickfullaw26_head.f k).bind fun t301 => (some t301)) = some r := by rw [if_pos rfl] at H; exact H
  clear H
  have H := H1
  clear H1
  replace H := Option.bind_eq_some_iff.mp H
  obtain ⟨t301, A50, H⟩ := H
  replace H : (some t301) = some r := H
  have A5 := Aside0.mk A50
  clear A50
  obtain rfl := Option.some.inj H
  go_enter Try.func3, Try.ntmps3
  go_wp2_with (first | ((with_reducible refine gate_dst (N := 2) rfl ?_); refine box_event ?hg (N := 2) ?hd (cs := #[.slice A0_0 l0_0.length c0_0, .slice A0_1 l0_1.length c0_1, .int .i64 a0_2, .int .i64 a0_3, .bool a0_4, .int .i64 a0_5]) (t := 27) ?hr ?_; (case hd => rfl); (case hg => rfl); (case hr => first | (go_simp; done) | (go_simp; rfl)); intro gb298 hg w6 hbox hb; have BK298 := Aside0.mk (hbox); have GW298 := bge HB hg; have GE298 := bge HB hg; replace HB := bh HB hb; clear hb hbox hg) | ((with_reducible refine gate_dst (N := 3) rfl ?_); refine box_event ?hg (N := 3) ?hd (cs := #[.int .i64 a1_0, .int .i64 a1_1]) (t := 29) ?hr ?_; (case hd => rfl); (case hg => rfl); (case hr => first | (go_simp; done) | (go_simp; rfl)); intro gb299 hg w7 hbox hb; have BK299 := Aside0.mk (hbox); have GW299 := bge HB hg; have GE299 := bge HB hg; replace HB := bh HB hb; have NB298_299 := nbl BK298 hg; have NB299_298 := nbg BK298 hg; replace BK298 := bb BK298 hb; clear hb hbox hg; have hnb8 := NB298_299.out; have hnc8 := NB299_298.out; obtain ⟨hcz9_0, hcz9_1, hcz9_2, hcz9_3, hcz9_4, hcz9_5⟩ := cz6 BK298; obtain ⟨hfz9_0, hfz9_1, hfz9_2, hfz9_3, hfz9_4, hfz9_5⟩ := fz6 BK298) | ((with_reducible refine gate_callee (f := 8) rfl ?_); refine goesB (some 18) rfl rfl Try.func8 #[.agg #[.slice A0_0 l0_0.length c0_0, .slice A0_1 l0_1.length c0_1, .int .i64 a0_2, .int .i64 a0_3, .bool a0_4, .int .i64 a0_5]] rfl ?_; (with_reducible refine (stickfullaw26_great.calls _ _ l0_0 _ _ l0_1 a0_2 a0_3 a0_4 a0_5 true _ ?side1 ?side2 ?side3 ?side4 A3.out).mono ?_); (case side1 => repeat (first | exact (Kd.C_below HR0_0.out HB.out) | (with_reducible refine Kd.C_alloc ?_ _) | (with_reducible refine Kd.C_drewN ?_ _) | (with_reducible refine Kd.C_drew ?_))); (case side2 => exact HC0_0.out); (case side3 => repeat (first | exact (Kd.C_below HR0_1.out HB.out) | (with_reducible refine Kd.C_alloc ?_ _) | (with_reducible refine Kd.C_drewN ?_ _) | (with_reducible refine Kd.C_drew ?_))); (case side4 => exact HC0_1.out); rintro e w10 ⟨rfl, hb⟩; refine ⟨_, rfl, ?_⟩; replace BK298 := bb BK298 hb; replace BK299 := bb BK299 hb; replace HB := bh HB hb; (try clear hb); (try clear hb2); (try clear hk); (try clear hi)) | ((with_reducible refine gate_callee (f := 9) rfl ?_); refine goesB (some 19) rfl rfl Try.func9 #[] rfl ?_; (with_reducible refine (stickfullaw26_head.calls k  t301 _ A5.out).mono ?_); rintro e w11 ⟨rfl, hb⟩; refine ⟨_, rfl, ?_⟩; replace BK298 := bb BK298 hb; replace BK299 := bb BK299 hb; replace HB := bh HB hb; (try clear hb); (try clear hb2); (try clear hk); (try clear hi)))
  go_ret
  exact ⟨by first | rfl | (simp [errW_none, errW_some] <;> rfl) | (simp [*, errW_none, errW_some] <;> rfl), by repeat (first | (with_reducible first | exact HB.out | apply below_alloc | apply pw_below_drewN | apply below_drew1 | refine below_set ?_ GE298.out | refine below_set ?_ GE299.out) | exact HB.out)⟩
 ·replace c4 := Bool.eq_false_iff.mpr c4
  subst c4
  have H1 : ((ellipsis_Cut.f l0_0 l0_1 a0_2 a0_3 a0_4 a1_0 a1_1 a0_5).bind fun bt302 => ((stickfulref26_Cut.f k l0_0 l0_1 a0_2 a0_3 a0_4 a1_0 a1_1 a0_5).bind fun bt306 => ((ellipsis_Places.f k l0_0 l0_1 a0_2 a0_3 a0_4).bind fun bt310 => ((stickfulref26_Places.f k l0_0 l0_1 a0_2 a0_3 a0_4).bind fun bt314 => (if bt302.1 = bt306.1 then (if bt302.2.1 = bt306.2.1 then (if (bt302.2.2.1 == bt306.2.2.1) = true then (if bt302.2.2.2 = bt306.2.2.2 then ((stickfulref26_SameInts.f k bt310.1 bt314.1).bind fun t318 => (if t318 = true then (if bt310.2 = bt314.2 then ((stickfullaw26_head.f k).bind fun t319 => (some t319)) else (some false)) else (some false))) else (some false)) else (some false)) else (some false)) else (some false)))))) = some r := by rw [if_neg (show ¬ (false = true) by decide)] at H; exact H
  clear H
  have H := H1
  clear H1
  replace H := Option.bind_eq_some_iff.mp H
  obtain ⟨⟨t302, t303, t304, t305⟩, A120, H⟩ := H
  replace H : ((stickfulref26_Cut.f k l0_0 l0_1 a0_2 a0_3 a0_4 a1_0 a1_1 a0_5).bind fun bt306 => ((ellipsis_Places.f k l0_0 l0_1 a0_2 a0_3 a0_4).bind fun bt310 => ((stickfulref26_Places.f k l0_0 l0_1 a0_2 a0_3 a0_4).bind fun bt314 => (if t302 = bt306.1 then (if t303 = bt306.2.1 then (if (t304 == bt306.2.2.1) = true then (if t305 = bt306.2.2.2 then ((stickfulref26_SameInts.f k bt310.1 bt314.1).bind fun t318 => (if t318 = true then (if bt310.2 = bt314.2 then ((stickfullaw26_head.f k).bind fun t319 => (some t319)) else (some false)) else (some false))) else (some false)) else (some false)) else (some false)) else (some false))))) = some r := H
  have A12 := Aside0.mk A120
  clear A120
  replace H := Option.bind_eq_some_iff.mp H
  obtain ⟨⟨t306, t307, t308, t309⟩, A130, H⟩ := H
  replace H : ((ellipsis_Places.f k l0_0 l0_1 a0_2 a0_3 a0_4).bind fun bt310 => ((stickfulref26_Places.f k l0_0 l0_1 a0_2 a0_3 a0_4).bind fun bt314 => (if t302 = t306 then (if t303 = t307 then (if (t304 == t308) = true then (if t305 = t309 then ((stickfulref26_SameInts.f k bt310.1 bt314.1).bind fun t318 => (if t318 = true then (if bt310.2 = bt314.2 then ((stickfullaw26_head.f k).bind fun t319 => (some t319)) else (some false)) else (some false))) else (some false)) else (some false)) else (some false)) else (some false)))) = some r := H
  have A13 := Aside0.mk A130
  clear A130
  replace H := Option.bind_eq_some_iff.mp H
  obtain ⟨⟨t310, t313⟩, A140, H⟩ := H
  replace H : ((stickfulref26_Places.f k l0_0 l0_1 a0_2 a0_3 a0_4).bind fun bt314 => (if t302 = t306 then (if t303 = t307 then (if (t304 == t308) = true then (if t305 = t309 then ((stickfulref26_SameInts.f k t310 bt314.1).bind fun t318 => (if t318 = true then (if t313 = bt314.2 then ((stickfullaw26_head.f k).bind fun t319 => (some t319)) else (some false)) else (some false))) else (some false)) else (some false)) else (some false)) else (some false))) = some r := H
  have A14 := Aside0.mk A140
  clear A140
  replace H := Option.bind_eq_some_iff.mp H
  obtain ⟨⟨t314, t317⟩, A150, H⟩ := H
  replace H : (if t302 = t306 then (if t303 = t307 then (if (t304 == t308) = true then (if t305 = t309 then ((stickfulref26_SameInts.f k t310 t314).bind fun t318 => (if t318 = true then (if t313 = t317 then ((stickfullaw26_head.f k).bind fun t319 => (some t319)) else (some false)) else (some false))) else (some false)) else (some false)) else (some false)) else (some false)) = some r := H
  have A15 := Aside0.mk A150
  clear A150
  by_cases c16 : t302 = t306
  ·rw [if_pos c16] at H
   have c16b0 : (t302 == t306) = true := beq_iff_eq.mpr c16
   have c16b1 : (t302 != t306) = false := bne_eq_false_iff_eq.mpr c16
   clear c16
   by_cases c17 : t303 = t307
   ·rw [if_pos c17] at H
    have c17b0 : (t303 == t307) = true := beq_iff_eq.mpr c17
    have c17b1 : (t303 != t307) = false := bne_eq_false_iff_eq.mpr c17
    clear c17
    by_cases c18 : (t304 == t308) = true
    ·rw [if_pos c18] at H
     have c18b0 : (t304 == t308) = true := c18
     (try (have c18b1 : decide (t304 = t308) = true := by simpa using c18))
     (try (have c18b2 : (t304 == t308) = true := by simpa using c18))
     clear c18
     by_cases c19 : t305 = t309
     ·rw [if_pos c19] at H
      have c19b0 : (t305 == t309) = true := beq_iff_eq.mpr c19
      have c19b1 : (t305 != t309) = false := bne_eq_false_iff_eq.mpr c19
      clear c19
      replace H := Option.bind_eq_some_iff.mp H
      obtain ⟨t318, A200, H⟩ := H
      replace H : (if t318 = true then (if t313 = t317 then ((stickfullaw26_head.f k).bind fun t319 => (some t319)) else (some false)) else (some false)) = some r := H
      have A20 := Aside0.mk A200
      clear A200
      by_cases c21 : t318 = true
      ·subst c21
       have H1 : (if t313 = t317 then ((stickfullaw26_head.f k).bind fun t319 => (some t319)) else (some false)) = some r := by rw [if_pos rfl] at H; exact H
       clear H
       have H := H1
       clear H1
       by_cases c22 : t313 = t317
       ·rw [if_pos c22] at H
        have c22b0 : (t313 == t317) = true := beq_iff_eq.mpr c22
        have c22b1 : (t313 != t317) = false := bne_eq_false_iff_eq.mpr c22
        clear c22
        replace H := Option.bind_eq_some_iff.mp H
        obtain ⟨t319, A230, H⟩ := H
        replace H : (some t319) = some r := H
        have A23 := Aside0.mk A230
        clear A230
        obtain rfl := Option.some.inj H
        go_enter Try.func3, Try.ntmps3
        go_wp2_with (first | ((with_reducible refine gate_dst (N := 2) rfl ?_); refine box_event ?hg (N := 2) ?hd (cs := #[.slice A0_0 l0_0.length c0_0, .slice A0_1 l0_1.length c0_1, .int .i64 a0_2, .int .i64 a0_3, .bool a0_4, .int .i64 a0_5]) (t := 27) ?hr ?_; (case hd => rfl); (case hg => rfl); (case hr => first | (go_simp; done) | (go_simp; rfl)); intro gb298 hg w24 hbox hb; have BK298 := Aside0.mk (hbox); have GW298 := bge HB hg; have GE298 := bge HB hg; replace HB := bh HB hb; clear hb hbox hg) | ((with_reducible refine gate_dst (N := 3) rfl ?_); refine box_event ?hg (N := 3) ?hd (cs := #[.int .i64 a1_0, .int .i64 a1_1]) (t := 29) ?hr ?_; (case hd => rfl); (case hg => rfl); (case hr => first | (go_simp; done) | (go_simp; rfl)); intro gb299 hg w25 hbox hb; have BK299 := Aside0.mk (hbox); have GW299 := bge HB hg; have GE299 := bge HB hg; replace HB := bh HB hb; have NB298_299 := nbl BK298 hg; have NB299_298 := nbg BK298 hg; replace BK298 := bb BK298 hb; clear hb hbox hg; have hnb26 := NB298_299.out; have hnc26 := NB299_298.out; obtain ⟨hcz27_0, hcz27_1, hcz27_2, hcz27_3, hcz27_4, hcz27_5⟩ := cz6 BK298; obtain ⟨hfz27_0, hfz27_1, hfz27_2, hfz27_3, hfz27_4, hfz27_5⟩ := fz6 BK298) | ((with_reducible refine gate_callee (f := 8) rfl ?_); refine goesB (some 18) rfl rfl Try.func8 #[.agg #[.slice A0_0 l0_0.length c0_0, .slice A0_1 l0_1.length c0_1, .int .i64 a0_2, .int .i64 a0_3, .bool a0_4, .int .i64 a0_5]] rfl ?_; (with_reducible refine (stickfullaw26_great.calls _ _ l0_0 _ _ l0_1 a0_2 a0_3 a0_4 a0_5 false _ ?side1 ?side2 ?side3 ?side4 A3.out).mono ?_); (case side1 => repeat (first | exact (Kd.C_below HR0_0.out HB.out) | (with_reducible refine Kd.C_alloc ?_ _) | (with_reducible refine Kd.C_drewN ?_ _) | (with_reducible refine Kd.C_drew ?_))); (case side2 => exact HC0_0.out); (case side3 => repeat (first | exact (Kd.C_below HR0_1.out HB.out) | (with_reducible refine Kd.C_alloc ?_ _) | (with_reducible refine Kd.C_drewN ?_ _) | (with_reducible refine Kd.C_drew ?_))); (case side4 => exact HC0_1.out); rintro e w28 ⟨rfl, hb⟩; refine ⟨_, rfl, ?_⟩; replace BK298 := bb BK298 hb; replace BK299 := bb BK299 hb; replace HB := bh HB hb; (try clear hb); (try clear hb2); (try clear hk); (try clear hi); obtain ⟨hcz29_0, hcz29_1, hcz29_2, hcz29_3, hcz29_4, hcz29_5⟩ := cz6 BK298; obtain ⟨hfz29_0, hfz29_1, hfz29_2, hfz29_3, hfz29_4, hfz29_5⟩ := fz6 BK298; obtain ⟨hcz30_0, hcz30_1⟩ := cz2 BK299; obtain ⟨hfz30_0, hfz30_1⟩ := fz2 BK299) | ((with_reducible refine gate_callee (f := 10) rfl ?_); refine goesB (some 30) rfl rfl Try.func10 #[.slice A0_0 l0_0.length c0_0, .slice A0_1 l0_1.length c0_1, .agg #[.int .i64 a0_2, .int .i64 a0_3, .bool a0_4], .agg #[.int .i64 a1_0, .int .i64 a1_1], .int .i64 a0_5] rfl ?_; (with_reducible refine (ellipsis_Cut.calls _ _ l0_0 _ _ l0_1 a0_2 a0_3 a0_4 a1_0 a1_1 a0_5 t302 t303 t304 t305 _ ?side1 ?side2 ?side3 ?side4 A12.out).mono ?_); (case side1 => repeat (first | exact (Kd.C_below HR0_0.out HB.out) | (with_reducible refine Kd.C_alloc ?_ _) | (with_reducible refine Kd.C_drewN ?_ _) | (with_reducible refine Kd.C_drew ?_))); (case side2 => exact HC0_0.out); (case side3 => repeat (first | exact (Kd.C_below HR0_1.out HB.out) | (with_reducible refine Kd.C_alloc ?_ _) | (with_reducible refine Kd.C_drewN ?_ _) | (with_reducible refine Kd.C_drew ?_))); (case side4 => exact HC0_1.out); rintro e w31 ⟨rfl, hb⟩; refine ⟨_, rfl, ?_⟩; replace BK298 := bb BK298 hb; replace BK299 := bb BK299 hb; replace HB := bh HB hb; (try clear hb); (try clear hb2); (try clear hk); (try clear hi); obtain ⟨hcz32_0, hcz32_1, hcz32_2, hcz32_3, hcz32_4, hcz32_5⟩ := cz6 BK298; obtain ⟨hfz32_0, hfz32_1, hfz32_2, hfz32_3, hfz32_4, hfz32_5⟩ := fz6 BK298; obtain ⟨hcz33_0, hcz33_1⟩ := cz2 BK299; obtain ⟨hfz33_0, hfz33_1⟩ := fz2 BK299) | ((with_reducible refine gate_callee (f := 11) rfl ?_); refine goesB (some 45) rfl rfl Try.func11 #[.slice A0_0 l0_0.length c0_0, .slice A0_1 l0_1.length c0_1, .agg #[.int .i64 a0_2, .int .i64 a0_3, .bool a0_4], .agg #[.int .i64 a1_0, .int .i64 a1_1], .int .i64 a0_5] rfl ?_; (with_reducible refine (stickfulref26_Cut.calls k _ _ l0_0 _ _ l0_1 a0_2 a0_3 a0_4 a1_0 a1_1 a0_5 t306 t307 t308 t309 _ ?side1 ?side2 ?side3 ?side4 A13.out).mono ?_); (case side1 => repeat (first | exact (Kd.C_below HR0_0.out HB.out) | (with_reducible refine Kd.C_alloc ?_ _) | (with_reducible refine Kd.C_drewN ?_ _) | (with_reducible refine Kd.C_drew ?_))); (case side2 => exact HC0_0.out); (case side3 => repeat (first | exact (Kd.C_below HR0_1.out HB.out) | (with_reducible refine Kd.C_alloc ?_ _) | (with_reducible refine Kd.C_drewN ?_ _) | (with_reducible refine Kd.C_drew ?_))); (case side4 => exact HC0_1.out); rintro e w34 ⟨rfl, hb⟩; refine ⟨_, rfl, ?_⟩; replace BK298 := bb BK298 hb; replace BK299 := bb BK299 hb; replace HB := bh HB hb; (try clear hb); (try clear hb2); (try clear hk); (try clear hi); obtain ⟨hcz35_0, hcz35_1, hcz35_2, hcz35_3, hcz35_4, hcz35_5⟩ := cz6 BK298; obtain ⟨hfz35_0, hfz35_1, hfz35_2, hfz35_3, hfz35_4, hfz35_5⟩ := fz6 BK298) | ((with_reducible refine gate_callee (f := 12) rfl ?_); refine goesB (some 57) rfl rfl Try.func12 #[.slice A0_0 l0_0.length c0_0, .slice A0_1 l0_1.length c0_1, .agg #[.int .i64 a0_2, .int .i64 a0_3, .bool a0_4]] rfl ?_; (with_reducible refine (ellipsis_Places.calls k _ _ l0_0 _ _ l0_1 a0_2 a0_3 a0_4 t310 t313 _ ?side1 ?side2 ?side3 ?side4 A14.out).mono ?_); (case side1 => repeat (first | exact (Kd.C_below HR0_0.out HB.out) | (with_reducible refine Kd.C_alloc ?_ _) | (with_reducible refine Kd.C_drewN ?_ _) | (with_reducible refine Kd.C_drew ?_))); (case side2 => exact HC0_0.out); (case side3 => repeat (first | exact (Kd.C_below HR0_1.out HB.out) | (with_reducible refine Kd.C_alloc ?_ _) | (with_reducible refine Kd.C_drewN ?_ _) | (with_reducible refine Kd.C_drew ?_))); (case side4 => exact HC0_1.out); rintro e w36 ⟨v311, rfl, ho0, hb⟩; refine ⟨_, rfl, ?_⟩; have HO312 := Aside0.mk (Kd.R_lower ho0 (below_size (bw HB))); replace BK298 := bb BK298 hb; replace BK299 := bb BK299 hb; replace HB := bh HB hb; (try clear hb); (try clear hb2); (try clear hk); (try clear hi); (try clear ho0); obtain ⟨hcz37_0, hcz37_1, hcz37_2, hcz37_3, hcz37_4, hcz37_5⟩ := cz6 BK298; obtain ⟨hfz37_0, hfz37_1, hfz37_2, hfz37_3, hfz37_4, hfz37_5⟩ := fz6 BK298) | ((with_reducible refine gate_callee (f := 13) rfl ?_); refine goesB (some 67) rfl rfl Try.func13 #[.slice A0_0 l0_0.length c0_0, .slice A0_1 l0_1.length c0_1, .agg #[.int .i64 a0_2, .int .i64 a0_3, .bool a0_4]] rfl ?_; (with_reducible refine (stickfulref26_Places.calls k _ _ l0_0 _ _ l0_1 a0_2 a0_3 a0_4 t314 t317 _ ?side1 ?side2 ?side3 ?side4 A15.out).mono ?_); (case side1 => repeat (first | exact (Kd.C_below HR0_0.out HB.out) | (with_reducible refine Kd.C_alloc ?_ _) | (with_reducible refine Kd.C_drewN ?_ _) | (with_reducible refine Kd.C_drew ?_))); (case side2 => exact HC0_0.out); (case side3 => repeat (first | exact (Kd.C_below HR0_1.out HB.out) | (with_reducible refine Kd.C_alloc ?_ _) | (with_reducible refine Kd.C_drewN ?_ _) | (with_reducible refine Kd.C_drew ?_))); (case side4 => exact HC0_1.out); rintro e w38 ⟨v315, rfl, ho0, hb⟩; refine ⟨_, rfl, ?_⟩; have HO316 := Aside0.mk (Kd.R_lower (Kd.R_new' ho0 (Kd.R_lt (rx HO312))) (below_size (bw HB))); replace HO312 := Aside0.mk (Kd.R_elder' (rx HO312) (Kd.R_base ho0) hb); replace BK298 := bb BK298 hb; replace BK299 := bb BK299 hb; replace HB := bh HB hb; (try clear hb); (try clear hb2); (try clear hk); (try clear hi); (try clear ho0); obtain ⟨Ao39, co39, eo39⟩ := Kd.R_slice HO312.out; subst eo39; obtain ⟨Ao40, co40, eo40⟩ := Kd.R_slice HO316.out; subst eo40) | (go_at_call 14; (with_reducible refine (stickfulref26_SameInts.calls k _ _ t310 _ _ t314 true _ ?side1 ?side2 ?side3 ?side4 A20.out).mono ?_); (case side1 => repeat (first | exact (Kd.R_reads' HO312.out).2.2 | (with_reducible refine Kd.C_alloc ?_ _) | (with_reducible refine Kd.C_drewN ?_ _) | (with_reducible refine Kd.C_drew ?_))); (case side2 => exact (Kd.R_reads' HO312.out).2.1); (case side3 => repeat (first | exact (Kd.R_reads' HO316.out).2.2 | (with_reducible refine Kd.C_alloc ?_ _) | (with_reducible refine Kd.C_drewN ?_ _) | (with_reducible refine Kd.C_drew ?_))); (case side4 => exact (Kd.R_reads' HO316.out).2.1); rintro e w' ⟨rfl, ⟨nd, rfl⟩⟩) | (go_at_call 9; (with_reducible refine (stickfullaw26_head.calls k  t319 _ A23.out).mono ?_); rintro e w41 ⟨rfl, hb⟩; replace HO312 := Aside0.mk (Kd.R_below (rx HO312) hb); replace HO316 := Aside0.mk (Kd.R_below (rx HO316) hb); replace BK298 := bb BK298 hb; replace BK299 := bb BK299 hb; replace HB := bh HB hb; (try clear hb); (try clear hb2); (try clear hk); (try clear hi)))
        go_ret
        exact ⟨by first | rfl | (simp [errW_none, errW_some] <;> rfl) | (simp [*, errW_none, errW_some] <;> rfl), by repeat (first | (with_reducible first | exact HB.out | apply below_alloc | apply pw_below_drewN | apply below_drew1 | refine below_set ?_ GE298.out | refine below_set ?_ GE299.out) | exact HB.out)⟩
       ·rw [if_neg c22] at H
        have c22b0 : (t313 == t317) = false := beq_eq_false_iff_ne.mpr c22
        have c22b1 : (t313 != t317) = true := bne_iff_ne.mpr c22
        exact absurd ((Option.some.inj H).trans HR_.out) (by decide)
      ·replace c21 := Bool.eq_false_iff.mpr c21
       subst c21
       have H1 : (some false) = some r := by rw [if_neg (show ¬ (false = true) by decide)] at H; exact H
       clear H
       have H := H1
       clear H1
       exact absurd ((Option.some.inj H).trans HR_.out) (by decide)
     ·rw [if_neg c19] at H
      have c19b0 : (t305 == t309) = false := beq_eq_false_iff_ne.mpr c19
      have c19b1 : (t305 != t309) = true := bne_iff_ne.mpr c19
      exact absurd ((Option.some.inj H).trans HR_.out) (by decide)
    ·rw [if_neg c18] at H
     have c18b0 : (t304 == t308) = false := by simpa using c18
     (try (have c18b1 : decide (t304 = t308) = false := by simpa using c18))
     (try (have c18b2 : (t304 == t308) = false := by simpa using c18))
     (try (have c18b3 : ¬ (t304 = t308) := by simpa using c18))
     clear c18
     exact absurd ((Option.some.inj H).trans HR_.out) (by decide)
   ·rw [if_neg c17] at H
    have c17b0 : (t303 == t307) = false := beq_eq_false_iff_ne.mpr c17
    have c17b1 : (t303 != t307) = true := bne_iff_ne.mpr c17
    exact absurd ((Option.some.inj H).trans HR_.out) (by decide)
  ·rw [if_neg c16] at H
   have c16b0 : (t302 == t306) = false := beq_eq_false_iff_ne.mpr c16
   have c16b1 : (t302 != t306) = true := bne_iff_ne.mpr c16
   exact absurd ((Option.some.inj H).trans HR_.out) (by decide)

end Go.Proofs.Ytkaiibipcnlaiaa.HEll
