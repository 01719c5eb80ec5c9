-- Written by this claim's own program over the kit's print.
import Derived.Test.YtagdaniakfpnfaaHFillb
import Derived.Test.YtagdaniakfpnfaaHFillx0
import Derived.Test.YtagdaniakfpnfaaHFillx14
import Derived.Test.YtagdaniakfpnfaaHFillx15
import Derived.Test.YtagdaniakfpnfaaHFillx21
namespace Go.Proofs.Ytagdaniakfpnfaa.HFill
open Go.RowKit Go.Proofs.YtagdaniakfpnfaaW.PrintWords Go.Proofs.YtagdaniakfpnfaaW.PrintLast Go.Proofs.YtagdaniakfpnfaaW.PrintMore Go.Proofs.Ytagdaniakfpnfaa.Hand
attribute [local go_sem] max2_int min2_int max_two min_two max_three min_three max_four min_four   -- for this text's walks alone
set_option linter.unusedVariables false
set_option linter.unusedSimpArgs false

/-! ### stickfullaw14_FillLines: function 3 -/
def stickfullaw14_FillLines.f (k : Nat) (l0 : List (S44)) (a1_0 a1_1 a2_0 a2_1 : Int) : Option (Bool) := if (l0.length : Int) > 80 then ((stickfullaw14_head.f k).bind fun t411 => (some t411)) else ((fill_Lines.f k l0 a1_0 a1_1 a2_0 a2_1).bind fun bt412 => ((stickfulref14_Lines.f k l0 a1_0 a1_1 a2_0 a2_1).bind fun bt416 => ((stickfulref14_Same.f k bt412.1 bt416.1).bind fun t420 => (if t420 = true then (if bt412.2 = bt416.2 then ((stickfullaw14_head.f k).bind fun t421 => (some t421)) else (some false)) else (some false)))))
theorem stickfullaw14_FillLines.mono : ∀ a0 a1 a2 a3 a4 k, LeO (stickfullaw14_FillLines.f k a0 a1 a2 a3 a4) (stickfullaw14_FillLines.f (k + 1) a0 a1 a2 a3 a4) := by
  intro a0 a1 a2 a3 a4 k
  unfold stickfullaw14_FillLines.f
  repeat' first
      | (with_reducible exact fill_Lines.mono _ _ _ _ _ _)
      | (with_reducible exact stickfullaw14_head.mono _)
      | (with_reducible exact stickfulref14_Lines.mono _ _ _ _ _ _)
      | (with_reducible exact stickfulref14_Same.mono _ _ _)
      | (with_reducible exact LeO.refl _)
      | (with_reducible exact LeO.none _)
      | (with_reducible refine LeO.ite ?_ ?_)
      | (with_reducible refine LeO.bind ?_ (fun _ => ?_))
      | exact fill_Lines.mono _ _ _ _ _ _
      | exact stickfullaw14_head.mono _
      | exact stickfulref14_Lines.mono _ _ _ _ _ _
      | exact stickfulref14_Same.mono _ _ _
      | exact LeO.none _
      | refine LeO.ite ?_ ?_
      | refine LeO.bind ?_ (fun _ => ?_)
set_option maxHeartbeats 8000000 in
set_option maxRecDepth 100000 in
theorem stickfullaw14_FillLines.calls_t (k : Nat) (A0 : Option Addr) (c0 : Nat) (l0 : List (S44)) (a1_0 a1_1 a2_0 a2_1 : Int) (r : Bool) (w : World) (hr0 : Kd.C k44 w A0 l0.length l0) (hc0 : l0.length ≤ c0) (h : stickfullaw14_FillLines.f k l0 a1_0 a1_1 a2_0 a2_1 = some r) (hr_ : r = true) :
    Calls Try.prog 3 #[.slice A0 l0.length c0, .agg #[.int .i64 a1_0, .int .i64 a1_1], .agg #[.int .i64 a2_0, .int .i64 a2_1]] w fun e w' => e = .returned (.bool r) ∧ Below w.heap.size w w' := by
  have hu24 := Try.underlying24
  have HR_ := Aside0.mk hr_
  clear hr_
  have HR0 := Aside0.mk hr0
  have HC0 := Aside0.mk hc0
  clear hr0 hc0
  have HB := Aside0.mk (Below.refl w.heap.size w)
  have H : (if (l0.length : Int) > 80 then ((stickfullaw14_head.f k).bind fun t411 => (some t411)) else ((fill_Lines.f k l0 a1_0 a1_1 a2_0 a2_1).bind fun bt412 => ((stickfulref14_Lines.f k l0 a1_0 a1_1 a2_0 a2_1).bind fun bt416 => ((stickfulref14_Same.f k bt412.1 bt416.1).bind fun t420 => (if t420 = true then (if bt412.2 = bt416.2 then ((stickfullaw14_head.f k).bind fun t421 => (some t421)) else (some false)) else (some false)))))) = some r := h
  clear h
  by_cases c4 : (l0.length : Int) > 80
  · rw [if_pos c4] at H
    have c4b0 : decide (80 < (l0.length : Int)) = true := decide_eq_true c4
    have c4b1 : decide (80 < l0.length) = true := decide_eq_true (by omega)
    clear c4
    replace H := Option.bind_eq_some_iff.mp H
    obtain ⟨t411, A50, H⟩ := H
    replace H : (some t411) = some r := H
    have A5 := Aside0.mk A50
    clear A50
    obtain rfl := Option.some.inj H
    go_enter Try.func3, Try.ntmps3
    go_wp2_with (first | ((with_reducible refine gate_dst (N := 4) rfl ?_); refine box_event ?hg (N := 4) ?hd (cs := #[.int .i64 a1_0, .int .i64 a1_1]) (t := 24) ?hr ?_; (case hd => rfl); (case hg => rfl); (case hr => first | (go_simp; done) | (go_simp; rfl)); intro gb409 hg w6 hbox hb; have BK409 := Aside0.mk (hbox); have GW409 := bge HB hg; have GE409 := bge HB hg; replace HB := bh HB hb; clear hb hbox hg) | ((with_reducible refine gate_dst (N := 5) rfl ?_); refine box_event ?hg (N := 5) ?hd (cs := #[.int .i64 a2_0, .int .i64 a2_1]) (t := 24) ?hr ?_; (case hd => rfl); (case hg => rfl); (case hr => first | (go_simp; done) | (go_simp; rfl)); intro gb410 hg w7 hbox hb; have BK410 := Aside0.mk (hbox); have GW410 := bge HB hg; have GE410 := bge HB hg; replace HB := bh HB hb; have NB409_410 := nbl BK409 hg; have NB410_409 := nbg BK409 hg; replace BK409 := bb BK409 hb; clear hb hbox hg) | ((with_reducible refine gate_callee (f := 8) rfl ?_); refine goesB (some 14) rfl rfl Try.func8 #[] rfl ?_; (with_reducible refine (stickfullaw14_head.calls k  t411 _ A5.out).mono ?_); rintro e w8 ⟨rfl, hb⟩; refine ⟨_, rfl, ?_⟩; replace BK409 := bb BK409 hb; replace BK410 := bb BK410 hb; replace HB := bh HB hb; (try clear hb); (try clear hb2); (try clear hk); (try clear hi)))
    go_ret
    exact ⟨by first | rfl | (simp [errW_none, errW_some] <;> rfl) | (simp [*, errW_none, errW_some] <;> rfl), by repeat (first | (with_reducible first | exact HB.out | apply below_alloc | apply pw_below_drewN | apply below_drew1 | refine below_set ?_ GE409.out | refine below_set ?_ GE410.out) | exact HB.out)⟩
  · rw [if_neg c4] at H
    have c4b0 : decide (80 < (l0.length : Int)) = false := decide_eq_false c4
    have c4b1 : decide (80 < l0.length) = false := decide_eq_false (by omega)
    clear c4
    replace H := Option.bind_eq_some_iff.mp H
    obtain ⟨⟨t412, t415⟩, A90, H⟩ := H
    replace H : ((stickfulref14_Lines.f k l0 a1_0 a1_1 a2_0 a2_1).bind fun bt416 => ((stickfulref14_Same.f k t412 bt416.1).bind fun t420 => (if t420 = true then (if t415 = bt416.2 then ((stickfullaw14_head.f k).bind fun t421 => (some t421)) else (some false)) else (some false)))) = some r := H
    have A9 := Aside0.mk A90
    clear A90
    replace H := Option.bind_eq_some_iff.mp H
    obtain ⟨⟨t416, t419⟩, A100, H⟩ := H
    replace H : ((stickfulref14_Same.f k t412 t416).bind fun t420 => (if t420 = true then (if t415 = t419 then ((stickfullaw14_head.f k).bind fun t421 => (some t421)) else (some false)) else (some false))) = some r := H
    have A10 := Aside0.mk A100
    clear A100
    replace H := Option.bind_eq_some_iff.mp H
    obtain ⟨t420, A110, H⟩ := H
    replace H : (if t420 = true then (if t415 = t419 then ((stickfullaw14_head.f k).bind fun t421 => (some t421)) else (some false)) else (some false)) = some r := H
    have A11 := Aside0.mk A110
    clear A110
    by_cases c12 : t420 = true
    · subst c12
      have H1 : (if t415 = t419 then ((stickfullaw14_head.f k).bind fun t421 => (some t421)) else (some false)) = some r := by rw [if_pos rfl] at H; exact H
      clear H
      have H := H1
      clear H1
      by_cases c13 : t415 = t419
      · rw [if_pos c13] at H
        have c13b0 : (t415 == t419) = true := beq_iff_eq.mpr c13
        have c13b1 : (t415 != t419) = false := bne_eq_false_iff_eq.mpr c13
        clear c13
        replace H := Option.bind_eq_some_iff.mp H
        obtain ⟨t421, A140, H⟩ := H
        replace H : (some t421) = some r := H
        have A14 := Aside0.mk A140
        clear A140
        obtain rfl := Option.some.inj H
        go_enter Try.func3, Try.ntmps3
        go_wp2_with (first | ((with_reducible refine gate_dst (N := 4) rfl ?_); refine box_event ?hg (N := 4) ?hd (cs := #[.int .i64 a1_0, .int .i64 a1_1]) (t := 24) ?hr ?_; (case hd => rfl); (case hg => rfl); (case hr => first | (go_simp; done) | (go_simp; rfl)); intro gb409 hg w15 hbox hb; have BK409 := Aside0.mk (hbox); have GW409 := bge HB hg; have GE409 := bge HB hg; replace HB := bh HB hb; clear hb hbox hg) | ((with_reducible refine gate_dst (N := 5) rfl ?_); refine box_event ?hg (N := 5) ?hd (cs := #[.int .i64 a2_0, .int .i64 a2_1]) (t := 24) ?hr ?_; (case hd => rfl); (case hg => rfl); (case hr => first | (go_simp; done) | (go_simp; rfl)); intro gb410 hg w16 hbox hb; have BK410 := Aside0.mk (hbox); have GW410 := bge HB hg; have GE410 := bge HB hg; replace HB := bh HB hb; have NB409_410 := nbl BK409 hg; have NB410_409 := nbg BK409 hg; replace BK409 := bb BK409 hb; clear hb hbox hg; have hnb17 := NB409_410.out; have hnc17 := NB410_409.out; obtain ⟨hcz18_0, hcz18_1⟩ := cz2 BK409; obtain ⟨hfz18_0, hfz18_1⟩ := fz2 BK409; obtain ⟨hcz19_0, hcz19_1⟩ := cz2 BK410; obtain ⟨hfz19_0, hfz19_1⟩ := fz2 BK410) | ((with_reducible refine gate_callee (f := 9) rfl ?_); refine goesB (some 19) rfl rfl Try.func9 #[.slice A0 l0.length c0, .agg #[.int .i64 a1_0, .int .i64 a1_1], .agg #[.int .i64 a2_0, .int .i64 a2_1]] rfl ?_; (with_reducible refine (fill_Lines.calls k _ _ l0 a1_0 a1_1 a2_0 a2_1 t412 t415 _ ?side1 ?side2 A9.out).mono ?_); (case side1 => repeat (first | exact (Kd.C_below HR0.out HB.out) | (with_reducible refine Kd.C_alloc ?_ _) | (with_reducible refine Kd.C_drewN ?_ _) | (with_reducible refine Kd.C_drew ?_))); (case side2 => exact HC0.out); rintro e w20 ⟨v413, rfl, ho0, hb⟩; refine ⟨_, rfl, ?_⟩; have HO414 := Aside0.mk (Kd.R_lower ho0 (below_size (bw HB))); replace BK409 := bb BK409 hb; replace BK410 := bb BK410 hb; replace HB := bh HB hb; (try clear hb); (try clear hb2); (try clear hk); (try clear hi); (try clear ho0); obtain ⟨hcz21_0, hcz21_1⟩ := cz2 BK409; obtain ⟨hfz21_0, hfz21_1⟩ := fz2 BK409; obtain ⟨hcz22_0, hcz22_1⟩ := cz2 BK410; obtain ⟨hfz22_0, hfz22_1⟩ := fz2 BK410) | ((with_reducible refine gate_callee (f := 10) rfl ?_); refine goesB (some 26) rfl rfl Try.func10 #[.slice A0 l0.length c0, .agg #[.int .i64 a1_0, .int .i64 a1_1], .agg #[.int .i64 a2_0, .int .i64 a2_1]] rfl ?_; (with_reducible refine (stickfulref14_Lines.calls k _ _ l0 a1_0 a1_1 a2_0 a2_1 t416 t419 _ ?side1 ?side2 A10.out).mono ?_); (case side1 => repeat (first | exact (Kd.C_below HR0.out HB.out) | (with_reducible refine Kd.C_alloc ?_ _) | (with_reducible refine Kd.C_drewN ?_ _) | (with_reducible refine Kd.C_drew ?_))); (case side2 => exact HC0.out); rintro e w23 ⟨v417, rfl, ho0, hb⟩; refine ⟨_, rfl, ?_⟩; have HO418 := Aside0.mk (Kd.R_lower (Kd.R_new' ho0 (Kd.R_lt (rx HO414))) (below_size (bw HB))); replace HO414 := Aside0.mk (Kd.R_elder' (rx HO414) (Kd.R_base ho0) hb); replace BK409 := bb BK409 hb; replace BK410 := bb BK410 hb; replace HB := bh HB hb; (try clear hb); (try clear hb2); (try clear hk); (try clear hi); (try clear ho0); obtain ⟨Ao24, co24, eo24⟩ := Kd.R_slice HO414.out; subst eo24; obtain ⟨Ao25, co25, eo25⟩ := Kd.R_slice HO418.out; subst eo25) | ((with_reducible refine gate_callee (f := 11) rfl ?_); refine goesB (some 31) rfl rfl Try.func11 #[.slice Ao24 t412.length co24, .slice Ao25 t416.length co25] rfl ?_; (with_reducible refine (stickfulref14_Same.calls k _ _ t412 _ _ t416 true _ ?side1 ?side2 ?side3 ?side4 A11.out).mono ?_); (case side1 => repeat (first | exact (Kd.R_reads' HO414.out).2.2 | (with_reducible refine Kd.C_alloc ?_ _) | (with_reducible refine Kd.C_drewN ?_ _) | (with_reducible refine Kd.C_drew ?_))); (case side2 => exact (Kd.R_reads' HO414.out).2.1); (case side3 => repeat (first | exact (Kd.R_reads' HO418.out).2.2 | (with_reducible refine Kd.C_alloc ?_ _) | (with_reducible refine Kd.C_drewN ?_ _) | (with_reducible refine Kd.C_drew ?_))); (case side4 => exact (Kd.R_reads' HO418.out).2.1); rintro e w' ⟨rfl, ⟨nd, rfl⟩⟩; refine ⟨_, rfl, ?_⟩) | (go_at_call 8; (with_reducible refine (stickfullaw14_head.calls k  t421 _ A14.out).mono ?_); rintro e w26 ⟨rfl, hb⟩; replace HO414 := Aside0.mk (Kd.R_below (rx HO414) hb); replace HO418 := Aside0.mk (Kd.R_below (rx HO418) hb); replace BK409 := bb BK409 hb; replace BK410 := bb BK410 hb; replace HB := bh HB hb; (try clear hb); (try clear hb2); (try clear hk); (try clear hi)))
        go_ret
        exact ⟨by first | rfl | (simp [errW_none, errW_some] <;> rfl) | (simp [*, errW_none, errW_some] <;> rfl), by repeat (first | (with_reducible first | exact HB.out | apply below_alloc | apply pw_below_drewN | apply below_drew1 | refine below_set ?_ GE409.out | refine below_set ?_ GE410.out) | exact HB.out)⟩
      · rw [if_neg c13] at H
        have c13b0 : (t415 == t419) = false := beq_eq_false_iff_ne.mpr c13
        have c13b1 : (t415 != t419) = true := bne_iff_ne.mpr c13
        exact absurd ((Option.some.inj H).trans HR_.out) (by decide)
    · replace c12 := Bool.eq_false_iff.mpr c12
      subst c12
      have H1 : (some false) = some r := by rw [if_neg (show ¬ (false = true) by decide)] at H; exact H
      clear H
      have H := H1
      clear H1
      exact absurd ((Option.some.inj H).trans HR_.out) (by decide)

end Go.Proofs.Ytagdaniakfpnfaa.HFill
