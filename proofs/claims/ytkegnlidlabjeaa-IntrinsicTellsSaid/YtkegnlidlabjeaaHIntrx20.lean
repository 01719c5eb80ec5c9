-- Written by this claim's own program over the kit's print.
import Derived.Test.YtkegnlidlabjeaaHIntrb
import Derived.Test.YtkegnlidlabjeaaHIntrx0
import Derived.Test.YtkegnlidlabjeaaHIntrx11
import Derived.Test.YtkegnlidlabjeaaHIntrx12
import Derived.Test.YtkegnlidlabjeaaHIntrx14
import Derived.Test.YtkegnlidlabjeaaHIntrx15
import Derived.Test.YtkegnlidlabjeaaHIntrx19
namespace Go.Proofs.Ytkegnlidlabjeaa.HIntr
open Go.RowKit Go.Proofs.YtkegnlidlabjeaaW.PrintWords Go.Proofs.YtkegnlidlabjeaaW.PrintLast Go.Proofs.YtkegnlidlabjeaaW.PrintMore Go.Proofs.Ytkegnlidlabjeaa.Hand
attribute [local go_sem] max2_int min2_int max_two min_two max_three min_three max_four min_four   -- for this text's walks alone
set_option linter.unusedVariables false
set_option linter.unusedSimpArgs false

/-! ### stickfullaw21_IntrinsicTells: function 9 -/
def stickfullaw21_IntrinsicTells.f (k : Nat) (l0 : List (S35)) : Option (Bool) := (stickfullaw21_great.f l0).bind fun t287 => (if t287 = true then ((stickfullaw21_head.f k).bind fun t288 => (some t288)) else ((intrinsic_MinMax.f l0).bind fun bt289 => ((stickfulref21_MinMax.f k l0).bind fun bt292 => (if bt289.1 = bt292.1 then (if bt289.2.1 = bt292.2.1 then (if bt289.2.2 = bt292.2.2 then ((intrinsic_Lines.f l0).bind fun t295 => ((stickfulref21_Cuts.f k l0 false).bind fun t298 => ((stickfulref21_Same.f k t295 t298).bind fun t301 => (if t301 = true then ((intrinsic_Pieces.f l0).bind fun t302 => ((stickfulref21_Cuts.f k l0 true).bind fun t305 => ((stickfulref21_Same.f k t302 t305).bind fun t308 => (if t308 = true then ((stickfullaw21_head.f k).bind fun t309 => (some t309)) else (some false))))) else (some false))))) else (some false)) else (some false)) else (some false)))))
theorem stickfullaw21_IntrinsicTells.mono : ∀ a0 k, LeO (stickfullaw21_IntrinsicTells.f k a0) (stickfullaw21_IntrinsicTells.f (k + 1) a0) := by
  intro a0 k
  unfold stickfullaw21_IntrinsicTells.f
  repeat' first
      | (with_reducible exact stickfullaw21_head.mono _)
      | (with_reducible exact stickfulref21_Cuts.mono _ _ _)
      | (with_reducible exact stickfulref21_MinMax.mono _ _)
      | (with_reducible exact stickfulref21_Same.mono _ _ _)
      | (with_reducible exact LeO.refl _)
      | (with_reducible exact LeO.none _)
      | (with_reducible refine LeO.ite ?_ ?_)
      | (with_reducible refine LeO.bind ?_ (fun _ => ?_))
      | exact stickfullaw21_head.mono _
      | exact stickfulref21_Cuts.mono _ _ _
      | exact stickfulref21_MinMax.mono _ _
      | exact stickfulref21_Same.mono _ _ _
      | exact LeO.none _
      | refine LeO.ite ?_ ?_
      | refine LeO.bind ?_ (fun _ => ?_)
set_option maxHeartbeats 8000000 in
set_option maxRecDepth 100000 in
theorem stickfullaw21_IntrinsicTells.calls_t (k : Nat) (A0 : Option Addr) (c0 : Nat) (l0 : List (S35)) (r : Bool) (w : World) (hr0 : Kd.C k35 w A0 l0.length l0) (hc0 : l0.length ≤ c0) (h : stickfullaw21_IntrinsicTells.f k l0 = some r) (hr_ : r = true) :
    Calls Try.prog 9 #[.slice A0 l0.length c0] w fun e w' => e = .returned (.bool r) ∧ Below w.heap.size w w' := by
  have HR_ := Aside0.mk hr_
  clear hr_
  have HR0 := Aside0.mk hr0
  have HC0 := Aside0.mk hc0
  clear hr0 hc0
  have HB := Aside0.mk (Below.refl w.heap.size w)
  have H : ((stickfullaw21_great.f l0).bind fun t287 => (if t287 = true then ((stickfullaw21_head.f k).bind fun t288 => (some t288)) else ((intrinsic_MinMax.f l0).bind fun bt289 => ((stickfulref21_MinMax.f k l0).bind fun bt292 => (if bt289.1 = bt292.1 then (if bt289.2.1 = bt292.2.1 then (if bt289.2.2 = bt292.2.2 then ((intrinsic_Lines.f l0).bind fun t295 => ((stickfulref21_Cuts.f k l0 false).bind fun t298 => ((stickfulref21_Same.f k t295 t298).bind fun t301 => (if t301 = true then ((intrinsic_Pieces.f l0).bind fun t302 => ((stickfulref21_Cuts.f k l0 true).bind fun t305 => ((stickfulref21_Same.f k t302 t305).bind fun t308 => (if t308 = true then ((stickfullaw21_head.f k).bind fun t309 => (some t309)) else (some false))))) else (some false))))) else (some false)) else (some false)) else (some false)))))) = some r := h
  clear h
  replace H := Option.bind_eq_some_iff.mp H
  obtain ⟨t287, A20, H⟩ := H
  replace H : (if t287 = true then ((stickfullaw21_head.f k).bind fun t288 => (some t288)) else ((intrinsic_MinMax.f l0).bind fun bt289 => ((stickfulref21_MinMax.f k l0).bind fun bt292 => (if bt289.1 = bt292.1 then (if bt289.2.1 = bt292.2.1 then (if bt289.2.2 = bt292.2.2 then ((intrinsic_Lines.f l0).bind fun t295 => ((stickfulref21_Cuts.f k l0 false).bind fun t298 => ((stickfulref21_Same.f k t295 t298).bind fun t301 => (if t301 = true then ((intrinsic_Pieces.f l0).bind fun t302 => ((stickfulref21_Cuts.f k l0 true).bind fun t305 => ((stickfulref21_Same.f k t302 t305).bind fun t308 => (if t308 = true then ((stickfullaw21_head.f k).bind fun t309 => (some t309)) else (some false))))) else (some false))))) else (some false)) else (some false)) else (some false))))) = some r := H
  have A2 := Aside0.mk A20
  clear A20
  by_cases c3 : t287 = true
  · subst c3
    have H1 : ((stickfullaw21_head.f k).bind fun t288 => (some t288)) = some r := by rw [if_pos rfl] at H; exact H
    clear H
    have H := H1
    clear H1
    replace H := Option.bind_eq_some_iff.mp H
    obtain ⟨t288, A40, H⟩ := H
    replace H : (some t288) = some r := H
    have A4 := Aside0.mk A40
    clear A40
    obtain rfl := Option.some.inj H
    go_enter Try.func9, Try.ntmps9
    go_wp2_with (first | ((with_reducible refine gate_callee (f := 26) rfl ?_); refine goesB (some 10) rfl rfl Try.func26 #[.slice A0 l0.length c0] rfl ?_; (with_reducible refine (stickfullaw21_great.calls _ _ l0 true _ ?side1 ?side2 A2.out).mono ?_); (case side1 => repeat (first | exact HR0.out | (with_reducible refine Kd.C_alloc ?_ _) | (with_reducible refine Kd.C_drewN ?_ _) | (with_reducible refine Kd.C_drew ?_))); (case side2 => exact HC0.out); rintro e w' ⟨rfl, ⟨nd, rfl⟩⟩; refine ⟨_, rfl, ?_⟩) | ((with_reducible refine gate_callee (f := 24) rfl ?_); refine goesB (some 11) rfl rfl Try.func24 #[] rfl ?_; (with_reducible refine (stickfullaw21_head.calls k  t288 _ A4.out).mono ?_); rintro e w5 ⟨rfl, hb⟩; refine ⟨_, rfl, ?_⟩; replace HB := bh HB hb; (try clear hb); (try clear hb2); (try clear hk); (try clear hi)))
    go_ret
    exact ⟨by first | rfl | (simp [errW_none, errW_some] <;> rfl) | (simp [*, errW_none, errW_some] <;> rfl), by repeat (first | (with_reducible first | exact HB.out | apply below_alloc | apply pw_below_drewN | apply below_drew1) | exact HB.out)⟩
  · replace c3 := Bool.eq_false_iff.mpr c3
    subst c3
    have H1 : ((intrinsic_MinMax.f l0).bind fun bt289 => ((stickfulref21_MinMax.f k l0).bind fun bt292 => (if bt289.1 = bt292.1 then (if bt289.2.1 = bt292.2.1 then (if bt289.2.2 = bt292.2.2 then ((intrinsic_Lines.f l0).bind fun t295 => ((stickfulref21_Cuts.f k l0 false).bind fun t298 => ((stickfulref21_Same.f k t295 t298).bind fun t301 => (if t301 = true then ((intrinsic_Pieces.f l0).bind fun t302 => ((stickfulref21_Cuts.f k l0 true).bind fun t305 => ((stickfulref21_Same.f k t302 t305).bind fun t308 => (if t308 = true then ((stickfullaw21_head.f k).bind fun t309 => (some t309)) else (some false))))) else (some false))))) else (some false)) else (some false)) else (some false)))) = some r := by rw [if_neg (show ¬ (false = true) by decide)] at H; exact H
    clear H
    have H := H1
    clear H1
    replace H := Option.bind_eq_some_iff.mp H
    obtain ⟨⟨t289, t290, t291⟩, A60, H⟩ := H
    replace H : ((stickfulref21_MinMax.f k l0).bind fun bt292 => (if t289 = bt292.1 then (if t290 = bt292.2.1 then (if t291 = bt292.2.2 then ((intrinsic_Lines.f l0).bind fun t295 => ((stickfulref21_Cuts.f k l0 false).bind fun t298 => ((stickfulref21_Same.f k t295 t298).bind fun t301 => (if t301 = true then ((intrinsic_Pieces.f l0).bind fun t302 => ((stickfulref21_Cuts.f k l0 true).bind fun t305 => ((stickfulref21_Same.f k t302 t305).bind fun t308 => (if t308 = true then ((stickfullaw21_head.f k).bind fun t309 => (some t309)) else (some false))))) else (some false))))) else (some false)) else (some false)) else (some false))) = some r := H
    have A6 := Aside0.mk A60
    clear A60
    replace H := Option.bind_eq_some_iff.mp H
    obtain ⟨⟨t292, t293, t294⟩, A70, H⟩ := H
    replace H : (if t289 = t292 then (if t290 = t293 then (if t291 = t294 then ((intrinsic_Lines.f l0).bind fun t295 => ((stickfulref21_Cuts.f k l0 false).bind fun t298 => ((stickfulref21_Same.f k t295 t298).bind fun t301 => (if t301 = true then ((intrinsic_Pieces.f l0).bind fun t302 => ((stickfulref21_Cuts.f k l0 true).bind fun t305 => ((stickfulref21_Same.f k t302 t305).bind fun t308 => (if t308 = true then ((stickfullaw21_head.f k).bind fun t309 => (some t309)) else (some false))))) else (some false))))) else (some false)) else (some false)) else (some false)) = some r := H
    have A7 := Aside0.mk A70
    clear A70
    by_cases c8 : t289 = t292
    · rw [if_pos c8] at H
      have c8b0 : (t289 == t292) = true := beq_iff_eq.mpr c8
      have c8b1 : (t289 != t292) = false := bne_eq_false_iff_eq.mpr c8
      clear c8
      by_cases c9 : t290 = t293
      · rw [if_pos c9] at H
        have c9b0 : (t290 == t293) = true := beq_iff_eq.mpr c9
        have c9b1 : (t290 != t293) = false := bne_eq_false_iff_eq.mpr c9
        clear c9
        by_cases c10 : t291 = t294
        · rw [if_pos c10] at H
          have c10b0 : (t291 == t294) = true := beq_iff_eq.mpr c10
          have c10b1 : (t291 != t294) = false := bne_eq_false_iff_eq.mpr c10
          clear c10
          replace H := Option.bind_eq_some_iff.mp H
          obtain ⟨t295, A110, H⟩ := H
          replace H : ((stickfulref21_Cuts.f k l0 false).bind fun t298 => ((stickfulref21_Same.f k t295 t298).bind fun t301 => (if t301 = true then ((intrinsic_Pieces.f l0).bind fun t302 => ((stickfulref21_Cuts.f k l0 true).bind fun t305 => ((stickfulref21_Same.f k t302 t305).bind fun t308 => (if t308 = true then ((stickfullaw21_head.f k).bind fun t309 => (some t309)) else (some false))))) else (some false)))) = some r := H
          have A11 := Aside0.mk A110
          clear A110
          replace H := Option.bind_eq_some_iff.mp H
          obtain ⟨t298, A120, H⟩ := H
          replace H : ((stickfulref21_Same.f k t295 t298).bind fun t301 => (if t301 = true then ((intrinsic_Pieces.f l0).bind fun t302 => ((stickfulref21_Cuts.f k l0 true).bind fun t305 => ((stickfulref21_Same.f k t302 t305).bind fun t308 => (if t308 = true then ((stickfullaw21_head.f k).bind fun t309 => (some t309)) else (some false))))) else (some false))) = some r := H
          have A12 := Aside0.mk A120
          clear A120
          replace H := Option.bind_eq_some_iff.mp H
          obtain ⟨t301, A130, H⟩ := H
          replace H : (if t301 = true then ((intrinsic_Pieces.f l0).bind fun t302 => ((stickfulref21_Cuts.f k l0 true).bind fun t305 => ((stickfulref21_Same.f k t302 t305).bind fun t308 => (if t308 = true then ((stickfullaw21_head.f k).bind fun t309 => (some t309)) else (some false))))) else (some false)) = some r := H
          have A13 := Aside0.mk A130
          clear A130
          by_cases c14 : t301 = true
          · subst c14
            have H1 : ((intrinsic_Pieces.f l0).bind fun t302 => ((stickfulref21_Cuts.f k l0 true).bind fun t305 => ((stickfulref21_Same.f k t302 t305).bind fun t308 => (if t308 = true then ((stickfullaw21_head.f k).bind fun t309 => (some t309)) else (some false))))) = some r := by rw [if_pos rfl] at H; exact H
            clear H
            have H := H1
            clear H1
            replace H := Option.bind_eq_some_iff.mp H
            obtain ⟨t302, A150, H⟩ := H
            replace H : ((stickfulref21_Cuts.f k l0 true).bind fun t305 => ((stickfulref21_Same.f k t302 t305).bind fun t308 => (if t308 = true then ((stickfullaw21_head.f k).bind fun t309 => (some t309)) else (some false)))) = some r := H
            have A15 := Aside0.mk A150
            clear A150
            replace H := Option.bind_eq_some_iff.mp H
            obtain ⟨t305, A160, H⟩ := H
            replace H : ((stickfulref21_Same.f k t302 t305).bind fun t308 => (if t308 = true then ((stickfullaw21_head.f k).bind fun t309 => (some t309)) else (some false))) = some r := H
            have A16 := Aside0.mk A160
            clear A160
            replace H := Option.bind_eq_some_iff.mp H
            obtain ⟨t308, A170, H⟩ := H
            replace H : (if t308 = true then ((stickfullaw21_head.f k).bind fun t309 => (some t309)) else (some false)) = some r := H
            have A17 := Aside0.mk A170
            clear A170
            by_cases c18 : t308 = true
            · subst c18
              have H1 : ((stickfullaw21_head.f k).bind fun t309 => (some t309)) = some r := by rw [if_pos rfl] at H; exact H
              clear H
              have H := H1
              clear H1
              replace H := Option.bind_eq_some_iff.mp H
              obtain ⟨t309, A190, H⟩ := H
              replace H : (some t309) = some r := H
              have A19 := Aside0.mk A190
              clear A190
              obtain rfl := Option.some.inj H
              go_enter Try.func9, Try.ntmps9
              go_wp2_with (first | ((with_reducible refine gate_callee (f := 26) rfl ?_); refine goesB (some 10) rfl rfl Try.func26 #[.slice A0 l0.length c0] rfl ?_; (with_reducible refine (stickfullaw21_great.calls _ _ l0 false _ ?side1 ?side2 A2.out).mono ?_); (case side1 => repeat (first | exact HR0.out | (with_reducible refine Kd.C_alloc ?_ _) | (with_reducible refine Kd.C_drewN ?_ _) | (with_reducible refine Kd.C_drew ?_))); (case side2 => exact HC0.out); rintro e w' ⟨rfl, ⟨nd, rfl⟩⟩; refine ⟨_, rfl, ?_⟩) | ((with_reducible refine gate_callee (f := 25) rfl ?_); refine goesB (some 14) rfl rfl Try.func25 #[.slice A0 l0.length c0] rfl ?_; (with_reducible refine (intrinsic_MinMax.calls _ _ l0 t289 t290 t291 _ ?side1 ?side2 A6.out).mono ?_); (case side1 => repeat (first | exact HR0.out | (with_reducible refine Kd.C_alloc ?_ _) | (with_reducible refine Kd.C_drewN ?_ _) | (with_reducible refine Kd.C_drew ?_))); (case side2 => exact HC0.out); rintro e w20 ⟨rfl, hb⟩; refine ⟨_, rfl, ?_⟩; replace HB := bh HB hb; (try clear hb); (try clear hb2); (try clear hk); (try clear hi)) | ((with_reducible refine gate_callee (f := 27) rfl ?_); refine goesB (some 20) rfl rfl Try.func27 #[.slice A0 l0.length c0] rfl ?_; (with_reducible refine (stickfulref21_MinMax.calls k _ _ l0 t292 t293 t294 _ ?side1 ?side2 A7.out).mono ?_); (case side1 => repeat (first | exact (Kd.C_below HR0.out HB.out) | (with_reducible refine Kd.C_alloc ?_ _) | (with_reducible refine Kd.C_drewN ?_ _) | (with_reducible refine Kd.C_drew ?_))); (case side2 => exact HC0.out); rintro e w21 ⟨rfl, hb⟩; refine ⟨_, rfl, ?_⟩; replace HB := bh HB hb; (try clear hb); (try clear hb2); (try clear hk); (try clear hi)) | (go_at_call 29; (with_reducible refine (intrinsic_Lines.calls _ _ l0 t295 _ ?side1 ?side2 A11.out).mono ?_); (case side1 => repeat (first | exact (Kd.C_below HR0.out HB.out) | (with_reducible refine Kd.C_alloc ?_ _) | (with_reducible refine Kd.C_drewN ?_ _) | (with_reducible refine Kd.C_drew ?_))); (case side2 => exact HC0.out); rintro e w22 ⟨v296, rfl, ho0, hb⟩; have HO297 := Aside0.mk (Kd.R_lower ho0 (below_size (bw HB))); replace HB := bh HB hb; (try clear hb); (try clear hb2); (try clear hk); (try clear hi); (try clear ho0)) | (go_at_call 30; (with_reducible refine (stickfulref21_Cuts.calls k _ _ l0 false t298 _ ?side1 ?side2 A12.out).mono ?_); (case side1 => repeat (first | exact (Kd.C_below HR0.out HB.out) | (with_reducible refine Kd.C_alloc ?_ _) | (with_reducible refine Kd.C_drewN ?_ _) | (with_reducible refine Kd.C_drew ?_))); (case side2 => exact HC0.out); rintro e w23 ⟨v299, rfl, ho0, hb⟩; have HO300 := Aside0.mk (Kd.R_lower (Kd.R_new' ho0 (Kd.R_lt (rx HO297))) (below_size (bw HB))); replace HO297 := Aside0.mk (Kd.R_elder' (rx HO297) (Kd.R_base ho0) hb); replace HB := bh HB hb; (try clear hb); (try clear hb2); (try clear hk); (try clear hi); (try clear ho0); obtain ⟨Ao24, co24, eo24⟩ := Kd.R_slice HO297.out; subst eo24; obtain ⟨Ao25, co25, eo25⟩ := Kd.R_slice HO300.out; subst eo25) | (go_at_call 28; (with_reducible refine (stickfulref21_Same.calls k _ _ t295 _ _ t298 true _ ?side1 ?side2 ?side3 ?side4 A13.out).mono ?_); (case side1 => repeat (first | exact (Kd.R_reads' HO297.out).2.2 | (with_reducible refine Kd.C_alloc ?_ _) | (with_reducible refine Kd.C_drewN ?_ _) | (with_reducible refine Kd.C_drew ?_))); (case side2 => exact (Kd.R_reads' HO297.out).2.1); (case side3 => repeat (first | exact (Kd.R_reads' HO300.out).2.2 | (with_reducible refine Kd.C_alloc ?_ _) | (with_reducible refine Kd.C_drewN ?_ _) | (with_reducible refine Kd.C_drew ?_))); (case side4 => exact (Kd.R_reads' HO300.out).2.1); rintro e w' ⟨rfl, ⟨nd, rfl⟩⟩) | (go_at_call 31; (with_reducible refine (intrinsic_Pieces.calls _ _ l0 t302 _ ?side1 ?side2 A15.out).mono ?_); (case side1 => repeat (first | exact (Kd.C_below HR0.out (bw HB)) | (with_reducible refine Kd.C_alloc ?_ _) | (with_reducible refine Kd.C_drewN ?_ _) | (with_reducible refine Kd.C_drew ?_))); (case side2 => exact HC0.out); rintro e w26 ⟨v303, rfl, ho0, hb⟩; have HO304 := Aside0.mk (Kd.R_lower (Kd.R_new' (Kd.R_new' ho0 (Kd.R_lt (rx HO297))) (Kd.R_lt (rx HO300))) (below_size (bw HB))); replace HO297 := Aside0.mk (Kd.R_elder' (rx HO297) (Kd.R_base ho0) hb); replace HO300 := Aside0.mk (Kd.R_elder' (rx HO300) (Kd.R_base ho0) hb); replace HB := bh HB hb; (try clear hb); (try clear hb2); (try clear hk); (try clear hi); (try clear ho0)) | (go_at_call 30; (with_reducible refine (stickfulref21_Cuts.calls k _ _ l0 true t305 _ ?side1 ?side2 A16.out).mono ?_); (case side1 => repeat (first | exact (Kd.C_below HR0.out HB.out) | (with_reducible refine Kd.C_alloc ?_ _) | (with_reducible refine Kd.C_drewN ?_ _) | (with_reducible refine Kd.C_drew ?_))); (case side2 => exact HC0.out); rintro e w27 ⟨v306, rfl, ho0, hb⟩; have HO307 := Aside0.mk (Kd.R_lower (Kd.R_new' (Kd.R_new' (Kd.R_new' ho0 (Kd.R_lt (rx HO297))) (Kd.R_lt (rx HO300))) (Kd.R_lt (rx HO304))) (below_size (bw HB))); replace HO297 := Aside0.mk (Kd.R_elder' (rx HO297) (Kd.R_base ho0) hb); replace HO300 := Aside0.mk (Kd.R_elder' (rx HO300) (Kd.R_base ho0) hb); replace HO304 := Aside0.mk (Kd.R_elder' (rx HO304) (Kd.R_base ho0) hb); replace HB := bh HB hb; (try clear hb); (try clear hb2); (try clear hk); (try clear hi); (try clear ho0); obtain ⟨Ao28, co28, eo28⟩ := Kd.R_slice HO304.out; subst eo28; obtain ⟨Ao29, co29, eo29⟩ := Kd.R_slice HO307.out; subst eo29) | (go_at_call 28; (with_reducible refine (stickfulref21_Same.calls k _ _ t302 _ _ t305 true _ ?side1 ?side2 ?side3 ?side4 A17.out).mono ?_); (case side1 => repeat (first | exact (Kd.R_reads' HO304.out).2.2 | (with_reducible refine Kd.C_alloc ?_ _) | (with_reducible refine Kd.C_drewN ?_ _) | (with_reducible refine Kd.C_drew ?_))); (case side2 => exact (Kd.R_reads' HO304.out).2.1); (case side3 => repeat (first | exact (Kd.R_reads' HO307.out).2.2 | (with_reducible refine Kd.C_alloc ?_ _) | (with_reducible refine Kd.C_drewN ?_ _) | (with_reducible refine Kd.C_drew ?_))); (case side4 => exact (Kd.R_reads' HO307.out).2.1); rintro e w' ⟨rfl, ⟨nd, rfl⟩⟩) | (go_at_call 24; (with_reducible refine (stickfullaw21_head.calls k  t309 _ A19.out).mono ?_); rintro e w30 ⟨rfl, hb⟩; replace HO297 := Aside0.mk (Kd.R_below (rx HO297) hb); replace HO300 := Aside0.mk (Kd.R_below (rx HO300) hb); replace HO304 := Aside0.mk (Kd.R_below (rx HO304) hb); replace HO307 := Aside0.mk (Kd.R_below (rx HO307) hb); replace HB := bh HB hb; (try clear hb); (try clear hb2); (try clear hk); (try clear hi)))
              go_ret
              exact ⟨by first | rfl | (simp [errW_none, errW_some] <;> rfl) | (simp [*, errW_none, errW_some] <;> rfl), by repeat (first | (with_reducible first | exact HB.out | apply below_alloc | apply pw_below_drewN | apply below_drew1) | exact HB.out)⟩
            · replace c18 := Bool.eq_false_iff.mpr c18
              subst c18
              have H1 : (some false) = some r := by rw [if_neg (show ¬ (false = true) by decide)] at H; exact H
              clear H
              have H := H1
              clear H1
              exact absurd ((Option.some.inj H).trans HR_.out) (by decide)
          · replace c14 := Bool.eq_false_iff.mpr c14
            subst c14
            have H1 : (some false) = some r := by rw [if_neg (show ¬ (false = true) by decide)] at H; exact H
            clear H
            have H := H1
            clear H1
            exact absurd ((Option.some.inj H).trans HR_.out) (by decide)
        · rw [if_neg c10] at H
          have c10b0 : (t291 == t294) = false := beq_eq_false_iff_ne.mpr c10
          have c10b1 : (t291 != t294) = true := bne_iff_ne.mpr c10
          exact absurd ((Option.some.inj H).trans HR_.out) (by decide)
      · rw [if_neg c9] at H
        have c9b0 : (t290 == t293) = false := beq_eq_false_iff_ne.mpr c9
        have c9b1 : (t290 != t293) = true := bne_iff_ne.mpr c9
        exact absurd ((Option.some.inj H).trans HR_.out) (by decide)
    · rw [if_neg c8] at H
      have c8b0 : (t289 == t292) = false := beq_eq_false_iff_ne.mpr c8
      have c8b1 : (t289 != t292) = true := bne_iff_ne.mpr c8
      exact absurd ((Option.some.inj H).trans HR_.out) (by decide)

end Go.Proofs.Ytkegnlidlabjeaa.HIntr
