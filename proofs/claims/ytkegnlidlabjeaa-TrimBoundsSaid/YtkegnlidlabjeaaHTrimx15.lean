-- Written by this claim's own program over the kit's print.
import Derived.Test.YtkegnlidlabjeaaHTrimb
import Derived.Test.YtkegnlidlabjeaaHTrimx0
import Derived.Test.YtkegnlidlabjeaaHTrimx2
import Derived.Test.YtkegnlidlabjeaaHTrimx3
import Derived.Test.YtkegnlidlabjeaaHTrimx8
import Derived.Test.YtkegnlidlabjeaaHTrimx9
import Derived.Test.YtkegnlidlabjeaaHTrimx11
import Derived.Test.YtkegnlidlabjeaaHTrimx12
import Derived.Test.YtkegnlidlabjeaaHTrimx14
namespace Go.Proofs.Ytkegnlidlabjeaa.HTrim
open Go.RowKit Go.Proofs.YtkegnlidlabjeaaW.PrintWords Go.Proofs.YtkegnlidlabjeaaW.PrintLast Go.Proofs.YtkegnlidlabjeaaW.PrintMore Go.Proofs.Ytkegnlidlabjeaa.Hand
attribute [local go_sem] max2_int min2_int max_two min_two max_three min_three max_four min_four   -- for this text's walks alone
set_option linter.unusedVariables false
set_option linter.unusedSimpArgs false

/-! ### stickfullaw13_TrimRoles: function 3 -/
def stickfullaw13_TrimRoles.f (k : Nat) (l0 : List (S35)) (a1 : Int) : Option (Bool) := if (l0.length : Int) > 150 then ((stickfullaw13_head.f k).bind fun t295 => (some t295)) else ((trim_Fits.f l0 a1).bind fun bt296 => ((stickfulref13_Fits.f k l0 a1).bind fun bt298 => ((trim_Goes.f l0 a1).bind fun bt300 => ((stickfulref13_Goes.f k l0 a1).bind fun bt302 => ((trim_Roles.f l0).bind fun t304 => ((stickfulref13_Roles.f k l0).bind fun t307 => ((stickfulref13_Same.f k t304 t307).bind fun t310 => (if t310 = true then ((trim_Blank.f k l0).bind fun t311 => ((stickfulref13_Blank.f k l0).bind fun t312 => (if (t311 == t312) = true then (if bt296.1 = bt298.1 then (if bt296.2 = bt298.2 then (if bt300.1 = bt302.1 then (if bt300.2 = bt302.2 then ((stickfullaw13_head.f k).bind fun t313 => (some t313)) else (some false)) else (some false)) else (some false)) else (some false)) else (some false)))) else (some false)))))))))
theorem stickfullaw13_TrimRoles.mono : ∀ a0 a1 k, LeO (stickfullaw13_TrimRoles.f k a0 a1) (stickfullaw13_TrimRoles.f (k + 1) a0 a1) := by
  intro a0 a1 k
  unfold stickfullaw13_TrimRoles.f
  repeat' first
      | (with_reducible exact stickfullaw13_head.mono _)
      | (with_reducible exact stickfulref13_Blank.mono _ _)
      | (with_reducible exact stickfulref13_Fits.mono _ _ _)
      | (with_reducible exact stickfulref13_Goes.mono _ _ _)
      | (with_reducible exact stickfulref13_Roles.mono _ _)
      | (with_reducible exact stickfulref13_Same.mono _ _ _)
      | (with_reducible exact trim_Blank.mono _ _)
      | (with_reducible exact LeO.refl _)
      | (with_reducible exact LeO.none _)
      | (with_reducible refine LeO.ite ?_ ?_)
      | (with_reducible refine LeO.bind ?_ (fun _ => ?_))
      | exact stickfullaw13_head.mono _
      | exact stickfulref13_Blank.mono _ _
      | exact stickfulref13_Fits.mono _ _ _
      | exact stickfulref13_Goes.mono _ _ _
      | exact stickfulref13_Roles.mono _ _
      | exact stickfulref13_Same.mono _ _ _
      | exact trim_Blank.mono _ _
      | exact LeO.none _
      | refine LeO.ite ?_ ?_
      | refine LeO.bind ?_ (fun _ => ?_)
set_option maxHeartbeats 8000000 in
set_option maxRecDepth 100000 in
theorem stickfullaw13_TrimRoles.calls_t (k : Nat) (A0 : Option Addr) (c0 : Nat) (l0 : List (S35)) (a1 : Int) (r : Bool) (w : World) (hr0 : Kd.C k35 w A0 l0.length l0) (hc0 : l0.length ≤ c0) (h : stickfullaw13_TrimRoles.f k l0 a1 = some r) (hr_ : r = true) :
    Calls Try.prog 3 #[.slice A0 l0.length c0, .int .i64 a1] w fun e w' => e = .returned (.bool r) ∧ Below w.heap.size w w' := by
  have HR_ := Aside0.mk hr_
  clear hr_
  have HR0 := Aside0.mk hr0
  have HC0 := Aside0.mk hc0
  clear hr0 hc0
  have HB := Aside0.mk (Below.refl w.heap.size w)
  have H : (if (l0.length : Int) > 150 then ((stickfullaw13_head.f k).bind fun t295 => (some t295)) else ((trim_Fits.f l0 a1).bind fun bt296 => ((stickfulref13_Fits.f k l0 a1).bind fun bt298 => ((trim_Goes.f l0 a1).bind fun bt300 => ((stickfulref13_Goes.f k l0 a1).bind fun bt302 => ((trim_Roles.f l0).bind fun t304 => ((stickfulref13_Roles.f k l0).bind fun t307 => ((stickfulref13_Same.f k t304 t307).bind fun t310 => (if t310 = true then ((trim_Blank.f k l0).bind fun t311 => ((stickfulref13_Blank.f k l0).bind fun t312 => (if (t311 == t312) = true then (if bt296.1 = bt298.1 then (if bt296.2 = bt298.2 then (if bt300.1 = bt302.1 then (if bt300.2 = bt302.2 then ((stickfullaw13_head.f k).bind fun t313 => (some t313)) else (some false)) else (some false)) else (some false)) else (some false)) else (some false)))) else (some false)))))))))) = some r := h
  clear h
  by_cases c3 : (l0.length : Int) > 150
  · rw [if_pos c3] at H
    have c3b0 : decide (150 < (l0.length : Int)) = true := decide_eq_true c3
    have c3b1 : decide (150 < l0.length) = true := decide_eq_true (by omega)
    clear c3
    replace H := Option.bind_eq_some_iff.mp H
    obtain ⟨t295, A40, H⟩ := H
    replace H : (some t295) = some r := H
    have A4 := Aside0.mk A40
    clear A40
    obtain rfl := Option.some.inj H
    go_enter Try.func3, Try.ntmps3
    go_wp2_with (first | ((with_reducible refine gate_callee (f := 11) rfl ?_); refine goesB (some 16) rfl rfl Try.func11 #[] rfl ?_; (with_reducible refine (stickfullaw13_head.calls k  t295 _ A4.out).mono ?_); rintro e w5 ⟨rfl, hb⟩; refine ⟨_, rfl, ?_⟩; replace HB := bh HB hb; (try clear hb); (try clear hb2); (try clear hk); (try clear hi)))
    go_ret
    exact ⟨by first | rfl | (simp [errW_none, errW_some] <;> rfl) | (simp [*, errW_none, errW_some] <;> rfl), by repeat (first | (with_reducible first | exact HB.out | apply below_alloc | apply pw_below_drewN | apply below_drew1) | exact HB.out)⟩
  · rw [if_neg c3] at H
    have c3b0 : decide (150 < (l0.length : Int)) = false := decide_eq_false c3
    have c3b1 : decide (150 < l0.length) = false := decide_eq_false (by omega)
    clear c3
    replace H := Option.bind_eq_some_iff.mp H
    obtain ⟨⟨t296, t297⟩, A60, H⟩ := H
    replace H : ((stickfulref13_Fits.f k l0 a1).bind fun bt298 => ((trim_Goes.f l0 a1).bind fun bt300 => ((stickfulref13_Goes.f k l0 a1).bind fun bt302 => ((trim_Roles.f l0).bind fun t304 => ((stickfulref13_Roles.f k l0).bind fun t307 => ((stickfulref13_Same.f k t304 t307).bind fun t310 => (if t310 = true then ((trim_Blank.f k l0).bind fun t311 => ((stickfulref13_Blank.f k l0).bind fun t312 => (if (t311 == t312) = true then (if t296 = bt298.1 then (if t297 = bt298.2 then (if bt300.1 = bt302.1 then (if bt300.2 = bt302.2 then ((stickfullaw13_head.f k).bind fun t313 => (some t313)) else (some false)) else (some false)) else (some false)) else (some false)) else (some false)))) else (some false)))))))) = some r := H
    have A6 := Aside0.mk A60
    clear A60
    replace H := Option.bind_eq_some_iff.mp H
    obtain ⟨⟨t298, t299⟩, A70, H⟩ := H
    replace H : ((trim_Goes.f l0 a1).bind fun bt300 => ((stickfulref13_Goes.f k l0 a1).bind fun bt302 => ((trim_Roles.f l0).bind fun t304 => ((stickfulref13_Roles.f k l0).bind fun t307 => ((stickfulref13_Same.f k t304 t307).bind fun t310 => (if t310 = true then ((trim_Blank.f k l0).bind fun t311 => ((stickfulref13_Blank.f k l0).bind fun t312 => (if (t311 == t312) = true then (if t296 = t298 then (if t297 = t299 then (if bt300.1 = bt302.1 then (if bt300.2 = bt302.2 then ((stickfullaw13_head.f k).bind fun t313 => (some t313)) else (some false)) else (some false)) else (some false)) else (some false)) else (some false)))) else (some false))))))) = some r := H
    have A7 := Aside0.mk A70
    clear A70
    replace H := Option.bind_eq_some_iff.mp H
    obtain ⟨⟨t300, t301⟩, A80, H⟩ := H
    replace H : ((stickfulref13_Goes.f k l0 a1).bind fun bt302 => ((trim_Roles.f l0).bind fun t304 => ((stickfulref13_Roles.f k l0).bind fun t307 => ((stickfulref13_Same.f k t304 t307).bind fun t310 => (if t310 = true then ((trim_Blank.f k l0).bind fun t311 => ((stickfulref13_Blank.f k l0).bind fun t312 => (if (t311 == t312) = true then (if t296 = t298 then (if t297 = t299 then (if t300 = bt302.1 then (if t301 = bt302.2 then ((stickfullaw13_head.f k).bind fun t313 => (some t313)) else (some false)) else (some false)) else (some false)) else (some false)) else (some false)))) else (some false)))))) = some r := H
    have A8 := Aside0.mk A80
    clear A80
    replace H := Option.bind_eq_some_iff.mp H
    obtain ⟨⟨t302, t303⟩, A90, H⟩ := H
    replace H : ((trim_Roles.f l0).bind fun t304 => ((stickfulref13_Roles.f k l0).bind fun t307 => ((stickfulref13_Same.f k t304 t307).bind fun t310 => (if t310 = true then ((trim_Blank.f k l0).bind fun t311 => ((stickfulref13_Blank.f k l0).bind fun t312 => (if (t311 == t312) = true then (if t296 = t298 then (if t297 = t299 then (if t300 = t302 then (if t301 = t303 then ((stickfullaw13_head.f k).bind fun t313 => (some t313)) else (some false)) else (some false)) else (some false)) else (some false)) else (some false)))) else (some false))))) = some r := H
    have A9 := Aside0.mk A90
    clear A90
    replace H := Option.bind_eq_some_iff.mp H
    obtain ⟨t304, A100, H⟩ := H
    replace H : ((stickfulref13_Roles.f k l0).bind fun t307 => ((stickfulref13_Same.f k t304 t307).bind fun t310 => (if t310 = true then ((trim_Blank.f k l0).bind fun t311 => ((stickfulref13_Blank.f k l0).bind fun t312 => (if (t311 == t312) = true then (if t296 = t298 then (if t297 = t299 then (if t300 = t302 then (if t301 = t303 then ((stickfullaw13_head.f k).bind fun t313 => (some t313)) else (some false)) else (some false)) else (some false)) else (some false)) else (some false)))) else (some false)))) = some r := H
    have A10 := Aside0.mk A100
    clear A100
    replace H := Option.bind_eq_some_iff.mp H
    obtain ⟨t307, A110, H⟩ := H
    replace H : ((stickfulref13_Same.f k t304 t307).bind fun t310 => (if t310 = true then ((trim_Blank.f k l0).bind fun t311 => ((stickfulref13_Blank.f k l0).bind fun t312 => (if (t311 == t312) = true then (if t296 = t298 then (if t297 = t299 then (if t300 = t302 then (if t301 = t303 then ((stickfullaw13_head.f k).bind fun t313 => (some t313)) else (some false)) else (some false)) else (some false)) else (some false)) else (some false)))) else (some false))) = some r := H
    have A11 := Aside0.mk A110
    clear A110
    replace H := Option.bind_eq_some_iff.mp H
    obtain ⟨t310, A120, H⟩ := H
    replace H : (if t310 = true then ((trim_Blank.f k l0).bind fun t311 => ((stickfulref13_Blank.f k l0).bind fun t312 => (if (t311 == t312) = true then (if t296 = t298 then (if t297 = t299 then (if t300 = t302 then (if t301 = t303 then ((stickfullaw13_head.f k).bind fun t313 => (some t313)) else (some false)) else (some false)) else (some false)) else (some false)) else (some false)))) else (some false)) = some r := H
    have A12 := Aside0.mk A120
    clear A120
    by_cases c13 : t310 = true
    · subst c13
      have H1 : ((trim_Blank.f k l0).bind fun t311 => ((stickfulref13_Blank.f k l0).bind fun t312 => (if (t311 == t312) = true then (if t296 = t298 then (if t297 = t299 then (if t300 = t302 then (if t301 = t303 then ((stickfullaw13_head.f k).bind fun t313 => (some t313)) else (some false)) else (some false)) else (some false)) else (some false)) else (some false)))) = some r := by rw [if_pos rfl] at H; exact H
      clear H
      have H := H1
      clear H1
      replace H := Option.bind_eq_some_iff.mp H
      obtain ⟨t311, A140, H⟩ := H
      replace H : ((stickfulref13_Blank.f k l0).bind fun t312 => (if (t311 == t312) = true then (if t296 = t298 then (if t297 = t299 then (if t300 = t302 then (if t301 = t303 then ((stickfullaw13_head.f k).bind fun t313 => (some t313)) else (some false)) else (some false)) else (some false)) else (some false)) else (some false))) = some r := H
      have A14 := Aside0.mk A140
      clear A140
      replace H := Option.bind_eq_some_iff.mp H
      obtain ⟨t312, A150, H⟩ := H
      replace H : (if (t311 == t312) = true then (if t296 = t298 then (if t297 = t299 then (if t300 = t302 then (if t301 = t303 then ((stickfullaw13_head.f k).bind fun t313 => (some t313)) else (some false)) else (some false)) else (some false)) else (some false)) else (some false)) = some r := H
      have A15 := Aside0.mk A150
      clear A150
      by_cases c16 : (t311 == t312) = true
      · rw [if_pos c16] at H
        have c16b0 : (t311 == t312) = true := c16
        (try (have c16b1 : decide (t311 = t312) = true := by simpa using c16))
        (try (have c16b2 : (t311 == t312) = true := by simpa using c16))
        clear c16
        by_cases c17 : t296 = t298
        · rw [if_pos c17] at H
          have c17b0 : (t296 == t298) = true := beq_iff_eq.mpr c17
          have c17b1 : (t296 != t298) = false := bne_eq_false_iff_eq.mpr c17
          clear c17
          by_cases c18 : t297 = t299
          · rw [if_pos c18] at H
            have c18b0 : (t297 == t299) = true := beq_iff_eq.mpr c18
            have c18b1 : (t297 != t299) = false := bne_eq_false_iff_eq.mpr c18
            clear c18
            by_cases c19 : t300 = t302
            · rw [if_pos c19] at H
              have c19b0 : (t300 == t302) = true := beq_iff_eq.mpr c19
              have c19b1 : (t300 != t302) = false := bne_eq_false_iff_eq.mpr c19
              clear c19
              by_cases c20 : t301 = t303
              · rw [if_pos c20] at H
                have c20b0 : (t301 == t303) = true := beq_iff_eq.mpr c20
                have c20b1 : (t301 != t303) = false := bne_eq_false_iff_eq.mpr c20
                clear c20
                replace H := Option.bind_eq_some_iff.mp H
                obtain ⟨t313, A210, H⟩ := H
                replace H : (some t313) = some r := H
                have A21 := Aside0.mk A210
                clear A210
                obtain rfl := Option.some.inj H
                go_enter Try.func3, Try.ntmps3
                go_wp2_with (first | ((with_reducible refine gate_callee (f := 12) rfl ?_); refine goesB (some 20) rfl rfl Try.func12 #[.slice A0 l0.length c0, .int .i64 a1] rfl ?_; (with_reducible refine (trim_Fits.calls _ _ l0 a1 t296 t297 _ ?side1 ?side2 A6.out).mono ?_); (case side1 => repeat (first | exact HR0.out | (with_reducible refine Kd.C_alloc ?_ _) | (with_reducible refine Kd.C_drewN ?_ _) | (with_reducible refine Kd.C_drew ?_))); (case side2 => exact HC0.out); rintro e w22 ⟨rfl, hb⟩; refine ⟨_, rfl, ?_⟩; replace HB := bh HB hb; (try clear hb); (try clear hb2); (try clear hk); (try clear hi)) | ((with_reducible refine gate_callee (f := 13) rfl ?_); refine goesB (some 26) rfl rfl Try.func13 #[.slice A0 l0.length c0, .int .i64 a1] rfl ?_; (with_reducible refine (stickfulref13_Fits.calls k _ _ l0 a1 t298 t299 _ ?side1 ?side2 A7.out).mono ?_); (case side1 => repeat (first | exact (Kd.C_below HR0.out HB.out) | (with_reducible refine Kd.C_alloc ?_ _) | (with_reducible refine Kd.C_drewN ?_ _) | (with_reducible refine Kd.C_drew ?_))); (case side2 => exact HC0.out); rintro e w23 ⟨rfl, hb⟩; refine ⟨_, rfl, ?_⟩; replace HB := bh HB hb; (try clear hb); (try clear hb2); (try clear hk); (try clear hi)) | ((with_reducible refine gate_callee (f := 14) rfl ?_); refine goesB (some 32) rfl rfl Try.func14 #[.slice A0 l0.length c0, .int .i64 a1] rfl ?_; (with_reducible refine (trim_Goes.calls _ _ l0 a1 t300 t301 _ ?side1 ?side2 A8.out).mono ?_); (case side1 => repeat (first | exact (Kd.C_below HR0.out HB.out) | (with_reducible refine Kd.C_alloc ?_ _) | (with_reducible refine Kd.C_drewN ?_ _) | (with_reducible refine Kd.C_drew ?_))); (case side2 => exact HC0.out); rintro e w24 ⟨rfl, hb⟩; refine ⟨_, rfl, ?_⟩; replace HB := bh HB hb; (try clear hb); (try clear hb2); (try clear hk); (try clear hi)) | ((with_reducible refine gate_callee (f := 15) rfl ?_); refine goesB (some 38) rfl rfl Try.func15 #[.slice A0 l0.length c0, .int .i64 a1] rfl ?_; (with_reducible refine (stickfulref13_Goes.calls k _ _ l0 a1 t302 t303 _ ?side1 ?side2 A9.out).mono ?_); (case side1 => repeat (first | exact (Kd.C_below HR0.out HB.out) | (with_reducible refine Kd.C_alloc ?_ _) | (with_reducible refine Kd.C_drewN ?_ _) | (with_reducible refine Kd.C_drew ?_))); (case side2 => exact HC0.out); rintro e w25 ⟨rfl, hb⟩; refine ⟨_, rfl, ?_⟩; replace HB := bh HB hb; (try clear hb); (try clear hb2); (try clear hk); (try clear hi)) | ((with_reducible refine gate_callee (f := 17) rfl ?_); refine goesB (some 42) rfl rfl Try.func17 #[.slice A0 l0.length c0] rfl ?_; (with_reducible refine (trim_Roles.calls _ _ l0 t304 _ ?side1 ?side2 A10.out).mono ?_); (case side1 => repeat (first | exact (Kd.C_below HR0.out HB.out) | (with_reducible refine Kd.C_alloc ?_ _) | (with_reducible refine Kd.C_drewN ?_ _) | (with_reducible refine Kd.C_drew ?_))); (case side2 => exact HC0.out); rintro e w26 ⟨v305, rfl, ho0, hb⟩; refine ⟨_, rfl, ?_⟩; have HO306 := Aside0.mk (Kd.R_lower ho0 (below_size (bw HB))); replace HB := bh HB hb; (try clear hb); (try clear hb2); (try clear hk); (try clear hi); (try clear ho0)) | ((with_reducible refine gate_callee (f := 18) rfl ?_); refine goesB (some 44) rfl rfl Try.func18 #[.slice A0 l0.length c0] rfl ?_; (with_reducible refine (stickfulref13_Roles.calls k _ _ l0 t307 _ ?side1 ?side2 A11.out).mono ?_); (case side1 => repeat (first | exact (Kd.C_below HR0.out HB.out) | (with_reducible refine Kd.C_alloc ?_ _) | (with_reducible refine Kd.C_drewN ?_ _) | (with_reducible refine Kd.C_drew ?_))); (case side2 => exact HC0.out); rintro e w27 ⟨v308, rfl, ho0, hb⟩; refine ⟨_, rfl, ?_⟩; have HO309 := Aside0.mk (Kd.R_lower (Kd.R_new' ho0 (Kd.R_lt (rx HO306))) (below_size (bw HB))); replace HO306 := Aside0.mk (Kd.R_elder' (rx HO306) (Kd.R_base ho0) hb); replace HB := bh HB hb; (try clear hb); (try clear hb2); (try clear hk); (try clear hi); (try clear ho0); obtain ⟨Ao28, co28, eo28⟩ := Kd.R_slice HO306.out; subst eo28; obtain ⟨Ao29, co29, eo29⟩ := Kd.R_slice HO309.out; subst eo29) | ((with_reducible refine gate_callee (f := 16) rfl ?_); refine goesB (some 45) rfl rfl Try.func16 #[.slice Ao28 t304.length co28, .slice Ao29 t307.length co29] rfl ?_; (with_reducible refine (stickfulref13_Same.calls k _ _ t304 _ _ t307 true _ ?side1 ?side2 ?side3 ?side4 A12.out).mono ?_); (case side1 => repeat (first | exact (Kd.R_reads' HO306.out).2.2 | (with_reducible refine Kd.C_alloc ?_ _) | (with_reducible refine Kd.C_drewN ?_ _) | (with_reducible refine Kd.C_drew ?_))); (case side2 => exact (Kd.R_reads' HO306.out).2.1); (case side3 => repeat (first | exact (Kd.R_reads' HO309.out).2.2 | (with_reducible refine Kd.C_alloc ?_ _) | (with_reducible refine Kd.C_drewN ?_ _) | (with_reducible refine Kd.C_drew ?_))); (case side4 => exact (Kd.R_reads' HO309.out).2.1); rintro e w' ⟨rfl, ⟨nd, rfl⟩⟩; refine ⟨_, rfl, ?_⟩) | (go_at_call 19; (with_reducible refine (trim_Blank.calls k _ _ l0 t311 _ ?side1 ?side2 A14.out).mono ?_); (case side1 => repeat (first | exact (Kd.C_below HR0.out (bw HB)) | (with_reducible refine Kd.C_alloc ?_ _) | (with_reducible refine Kd.C_drewN ?_ _) | (with_reducible refine Kd.C_drew ?_))); (case side2 => exact HC0.out); rintro e w30 ⟨rfl, hb⟩; replace HO306 := Aside0.mk (Kd.R_below (rx HO306) hb); replace HO309 := Aside0.mk (Kd.R_below (rx HO309) hb); replace HB := bh HB hb; (try clear hb); (try clear hb2); (try clear hk); (try clear hi)) | (go_at_call 20; (with_reducible refine (stickfulref13_Blank.calls k _ _ l0 t312 _ ?side1 ?side2 A15.out).mono ?_); (case side1 => repeat (first | exact (Kd.C_below HR0.out HB.out) | (with_reducible refine Kd.C_alloc ?_ _) | (with_reducible refine Kd.C_drewN ?_ _) | (with_reducible refine Kd.C_drew ?_))); (case side2 => exact HC0.out); rintro e w31 ⟨rfl, hb⟩; replace HO306 := Aside0.mk (Kd.R_below (rx HO306) hb); replace HO309 := Aside0.mk (Kd.R_below (rx HO309) hb); replace HB := bh HB hb; (try clear hb); (try clear hb2); (try clear hk); (try clear hi)) | (go_at_call 11; (with_reducible refine (stickfullaw13_head.calls k  t313 _ A21.out).mono ?_); rintro e w32 ⟨rfl, hb⟩; replace HO306 := Aside0.mk (Kd.R_below (rx HO306) hb); replace HO309 := Aside0.mk (Kd.R_below (rx HO309) hb); replace HB := bh HB hb; (try clear hb); (try clear hb2); (try clear hk); (try clear hi)))
                go_ret
                exact ⟨by first | rfl | (simp [errW_none, errW_some] <;> rfl) | (simp [*, errW_none, errW_some] <;> rfl), by repeat (first | (with_reducible first | exact HB.out | apply below_alloc | apply pw_below_drewN | apply below_drew1) | exact HB.out)⟩
              · rw [if_neg c20] at H
                have c20b0 : (t301 == t303) = false := beq_eq_false_iff_ne.mpr c20
                have c20b1 : (t301 != t303) = true := bne_iff_ne.mpr c20
                exact absurd ((Option.some.inj H).trans HR_.out) (by decide)
            · rw [if_neg c19] at H
              have c19b0 : (t300 == t302) = false := beq_eq_false_iff_ne.mpr c19
              have c19b1 : (t300 != t302) = true := bne_iff_ne.mpr c19
              exact absurd ((Option.some.inj H).trans HR_.out) (by decide)
          · rw [if_neg c18] at H
            have c18b0 : (t297 == t299) = false := beq_eq_false_iff_ne.mpr c18
            have c18b1 : (t297 != t299) = true := bne_iff_ne.mpr c18
            exact absurd ((Option.some.inj H).trans HR_.out) (by decide)
        · rw [if_neg c17] at H
          have c17b0 : (t296 == t298) = false := beq_eq_false_iff_ne.mpr c17
          have c17b1 : (t296 != t298) = true := bne_iff_ne.mpr c17
          exact absurd ((Option.some.inj H).trans HR_.out) (by decide)
      · rw [if_neg c16] at H
        have c16b0 : (t311 == t312) = false := by simpa using c16
        (try (have c16b1 : decide (t311 = t312) = false := by simpa using c16))
        (try (have c16b2 : (t311 == t312) = false := by simpa using c16))
        (try (have c16b3 : ¬ (t311 = t312) := by simpa using c16))
        clear c16
        exact absurd ((Option.some.inj H).trans HR_.out) (by decide)
    · replace c13 := Bool.eq_false_iff.mpr c13
      subst c13
      have H1 : (some false) = some r := by rw [if_neg (show ¬ (false = true) by decide)] at H; exact H
      clear H
      have H := H1
      clear H1
      exact absurd ((Option.some.inj H).trans HR_.out) (by decide)

end Go.Proofs.Ytkegnlidlabjeaa.HTrim
