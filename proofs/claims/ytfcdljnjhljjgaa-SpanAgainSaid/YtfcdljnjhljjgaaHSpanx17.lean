-- Written by this claim's own program over the kit's print.
import Derived.Test.YtfcdljnjhljjgaaHSpanb
import Derived.Test.YtfcdljnjhljjgaaHSpanx0
import Derived.Test.YtfcdljnjhljjgaaHSpanx1
import Derived.Test.YtfcdljnjhljjgaaHSpanx7
import Derived.Test.YtfcdljnjhljjgaaHSpanx8
namespace Go.Proofs.Ytfcdljnjhljjgaa.HSpan
open Go.RowKit Go.Proofs.YtfcdljnjhljjgaaW.PrintWords Go.Proofs.YtfcdljnjhljjgaaW.PrintLast Go.Proofs.YtfcdljnjhljjgaaW.PrintMore Go.Proofs.Ytfcdljnjhljjgaa.Hand
attribute [local go_sem] max2_int min2_int max_two min_two max_three min_three max_four min_four   -- for this text's walks alone
set_option linter.unusedVariables false
set_option linter.unusedSimpArgs false

attribute [local go_sem high] eqA23
/-! ### stickfullaw20_SpanAgain: function 8 -/
def stickfullaw20_SpanAgain.f (k : Nat) (a0_0 a0_1 : Int) (l1 : List (S35)) : Option (Bool) := if (l1.length : Int) > 60 then ((stickfullaw20_head.f k).bind fun t412 => (some t412)) else ((span_Line.f a0_0 a0_1 l1).bind fun bt413 => (if bt413.2.2.2 = 0 then ((span_Line.f bt413.1 bt413.2.1 l1).bind fun bt420 => (if bt420.2.2.2 = 0 then (if (bt413.1 == bt420.1 && (bt413.2.1 == bt420.2.1)) = true then ((stickfulref20_Same.f k bt413.2.2.1 bt420.2.2.1).bind fun t427 => (if t427 = true then ((stickfullaw20_head.f k).bind fun t428 => (some t428)) else (some false))) else (some false)) else ((stickfullaw20_head.f k).bind fun t429 => (some t429)))) else ((stickfullaw20_head.f k).bind fun t430 => (some t430))))
theorem stickfullaw20_SpanAgain.mono : ∀ a0 a1 a2 k, LeO (stickfullaw20_SpanAgain.f k a0 a1 a2) (stickfullaw20_SpanAgain.f (k + 1) a0 a1 a2) := by
  intro a0 a1 a2 k
  unfold stickfullaw20_SpanAgain.f
  repeat' first
      | (with_reducible exact stickfullaw20_head.mono _)
      | (with_reducible exact stickfulref20_Same.mono _ _ _)
      | (with_reducible exact LeO.refl _)
      | (with_reducible exact LeO.none _)
      | (with_reducible refine LeO.ite ?_ ?_)
      | (with_reducible refine LeO.bind ?_ (fun _ => ?_))
      | exact stickfullaw20_head.mono _
      | exact stickfulref20_Same.mono _ _ _
      | exact LeO.none _
      | refine LeO.ite ?_ ?_
      | refine LeO.bind ?_ (fun _ => ?_)
set_option maxHeartbeats 8000000 in
set_option maxRecDepth 100000 in
theorem stickfullaw20_SpanAgain.calls_t (k : Nat) (a0_0 a0_1 : Int) (A1 : Option Addr) (c1 : Nat) (l1 : List (S35)) (r : Bool) (w : World) (hr1 : Kd.C k35 w A1 l1.length l1) (hc1 : l1.length ≤ c1) (h : stickfullaw20_SpanAgain.f k a0_0 a0_1 l1 = some r) (hr_ : r = true) :
    Calls Try.prog 8 #[.agg #[.int .i64 a0_0, .int .i64 a0_1], .slice A1 l1.length c1] w fun e w' => e = .returned (.bool r) ∧ Below w.heap.size w w' := by
  have hu23 := Try.underlying23
  have HR_ := Aside0.mk hr_
  clear hr_
  have HR1 := Aside0.mk hr1
  have HC1 := Aside0.mk hc1
  clear hr1 hc1
  have HB := Aside0.mk (Below.refl w.heap.size w)
  have H : (if (l1.length : Int) > 60 then ((stickfullaw20_head.f k).bind fun t412 => (some t412)) else ((span_Line.f a0_0 a0_1 l1).bind fun bt413 => (if bt413.2.2.2 = 0 then ((span_Line.f bt413.1 bt413.2.1 l1).bind fun bt420 => (if bt420.2.2.2 = 0 then (if (bt413.1 == bt420.1 && (bt413.2.1 == bt420.2.1)) = true then ((stickfulref20_Same.f k bt413.2.2.1 bt420.2.2.1).bind fun t427 => (if t427 = true then ((stickfullaw20_head.f k).bind fun t428 => (some t428)) else (some false))) else (some false)) else ((stickfullaw20_head.f k).bind fun t429 => (some t429)))) else ((stickfullaw20_head.f k).bind fun t430 => (some t430))))) = some r := h
  clear h
  by_cases c3 : (l1.length : Int) > 60
  · rw [if_pos c3] at H
    have c3b0 : decide (60 < (l1.length : Int)) = true := decide_eq_true c3
    have c3b1 : decide (60 < l1.length) = true := decide_eq_true (by omega)
    clear c3
    replace H := Option.bind_eq_some_iff.mp H
    obtain ⟨t412, A40, H⟩ := H
    replace H : (some t412) = some r := H
    have A4 := Aside0.mk A40
    clear A40
    obtain rfl := Option.some.inj H
    go_enter Try.func8, Try.ntmps8
    go_wp2_with (first | ((with_reducible refine gate_dst (N := 2) rfl ?_); refine box_event ?hg (N := 2) ?hd (cs := #[.int .i64 a0_0, .int .i64 a0_1]) (t := 23) ?hr ?_; (case hd => rfl); (case hg => rfl); (case hr => first | (go_simp; done) | (go_simp; rfl)); intro gb411 hg w5 hbox hb; have BK411 := Aside0.mk (hbox); have GW411 := bge HB hg; have GE411 := bge HB hg; replace HB := bh HB hb; clear hb hbox hg) | ((with_reducible refine gate_callee (f := 9) rfl ?_); refine goesB (some 14) rfl rfl Try.func9 #[] rfl ?_; (with_reducible refine (stickfullaw20_head.calls k  t412 _ A4.out).mono ?_); rintro e w6 ⟨rfl, hb⟩; refine ⟨_, rfl, ?_⟩; replace BK411 := bb BK411 hb; replace HB := bh HB hb; (try clear hb); (try clear hb2); (try clear hk); (try clear hi)))
    go_ret
    exact ⟨by first | rfl | (simp [errW_none, errW_some] <;> rfl) | (simp [*, errW_none, errW_some] <;> rfl), by repeat (first | (with_reducible first | exact HB.out | apply below_alloc | apply pw_below_drewN | apply below_drew1 | refine below_set ?_ GE411.out) | exact HB.out)⟩
  · rw [if_neg c3] at H
    have c3b0 : decide (60 < (l1.length : Int)) = false := decide_eq_false c3
    have c3b1 : decide (60 < l1.length) = false := decide_eq_false (by omega)
    clear c3
    replace H := Option.bind_eq_some_iff.mp H
    obtain ⟨⟨t413, t414, t415, t418⟩, A70, H⟩ := H
    replace H : (if t418 = 0 then ((span_Line.f t413 t414 l1).bind fun bt420 => (if bt420.2.2.2 = 0 then (if (t413 == bt420.1 && (t414 == bt420.2.1)) = true then ((stickfulref20_Same.f k t415 bt420.2.2.1).bind fun t427 => (if t427 = true then ((stickfullaw20_head.f k).bind fun t428 => (some t428)) else (some false))) else (some false)) else ((stickfullaw20_head.f k).bind fun t429 => (some t429)))) else ((stickfullaw20_head.f k).bind fun t430 => (some t430))) = some r := H
    have A7 := Aside0.mk A70
    clear A70
    by_cases c8 : t418 = 0
    · rw [if_pos c8] at H
      have c8b0 : (t418 == 0) = true := beq_iff_eq.mpr c8
      have c8b1 : (t418 != 0) = false := bne_eq_false_iff_eq.mpr c8
      clear c8
      replace H := Option.bind_eq_some_iff.mp H
      obtain ⟨⟨t420, t421, t422, t425⟩, A90, H⟩ := H
      replace H : (if t425 = 0 then (if (t413 == t420 && (t414 == t421)) = true then ((stickfulref20_Same.f k t415 t422).bind fun t427 => (if t427 = true then ((stickfullaw20_head.f k).bind fun t428 => (some t428)) else (some false))) else (some false)) else ((stickfullaw20_head.f k).bind fun t429 => (some t429))) = some r := H
      have A9 := Aside0.mk A90
      clear A90
      by_cases c10 : t425 = 0
      · rw [if_pos c10] at H
        have c10b0 : (t425 == 0) = true := beq_iff_eq.mpr c10
        have c10b1 : (t425 != 0) = false := bne_eq_false_iff_eq.mpr c10
        clear c10
        by_cases c11 : (t413 == t420 && (t414 == t421)) = true
        · rw [if_pos c11] at H
          have c11b0 : (t413 == t420 && (t414 == t421)) = true := c11
          (try (have c11b1 : decide (t413 = t420 && (t414 == t421)) = true := by simpa using c11))
          (try (have c11b2 : (t413 == t420 && (t414 == t421)) = true := by simpa using c11))
          clear c11
          replace H := Option.bind_eq_some_iff.mp H
          obtain ⟨t427, A120, H⟩ := H
          replace H : (if t427 = true then ((stickfullaw20_head.f k).bind fun t428 => (some t428)) else (some false)) = some r := H
          have A12 := Aside0.mk A120
          clear A120
          by_cases c13 : t427 = true
          · subst c13
            have H1 : ((stickfullaw20_head.f k).bind fun t428 => (some t428)) = some r := by rw [if_pos rfl] at H; exact H
            clear H
            have H := H1
            clear H1
            replace H := Option.bind_eq_some_iff.mp H
            obtain ⟨t428, A140, H⟩ := H
            replace H : (some t428) = some r := H
            have A14 := Aside0.mk A140
            clear A140
            obtain rfl := Option.some.inj H
            go_enter Try.func8, Try.ntmps8
            go_wp2_with (first | ((with_reducible refine gate_dst (N := 2) rfl ?_); refine box_event ?hg (N := 2) ?hd (cs := #[.int .i64 a0_0, .int .i64 a0_1]) (t := 23) ?hr ?_; (case hd => rfl); (case hg => rfl); (case hr => first | (go_simp; done) | (go_simp; rfl)); intro gb411 hg w15 hbox hb; have BK411 := Aside0.mk (hbox); have GW411 := bge HB hg; have GE411 := bge HB hg; replace HB := bh HB hb; clear hb hbox hg; obtain ⟨hcz16_0, hcz16_1⟩ := cz2 BK411; obtain ⟨hfz16_0, hfz16_1⟩ := fz2 BK411) | ((with_reducible refine gate_callee (f := 10) rfl ?_); refine goesB (some 18) rfl rfl Try.func10 #[.agg #[.int .i64 a0_0, .int .i64 a0_1], .slice A1 l1.length c1] rfl ?_; (with_reducible refine (span_Line.calls a0_0 a0_1 _ _ l1 t413 t414 t415 t418 _ ?side1 ?side2 A7.out).mono ?_); (case side1 => repeat (first | exact (Kd.C_below HR1.out HB.out) | (with_reducible refine Kd.C_alloc ?_ _) | (with_reducible refine Kd.C_drewN ?_ _) | (with_reducible refine Kd.C_drew ?_))); (case side2 => exact HC1.out); rintro e w17 ⟨v416, rfl, ho0, hb⟩; refine ⟨_, rfl, ?_⟩; have HO417 := Aside0.mk (Kd.R_lower ho0 (below_size (bw HB))); replace BK411 := bb BK411 hb; replace HB := bh HB hb; (try clear hb); (try clear hb2); (try clear hk); (try clear hi); (try clear ho0)) | ((with_reducible refine gate_dst (N := 5) rfl ?_); refine box_event ?hg (N := 5) ?hd (cs := #[.int .i64 0, .int .i64 0]) (t := 23) ?hr ?_; (case hd => rfl); (case hg => rfl); (case hr => first | (go_simp; done) | (go_simp; rfl)); intro gb419 hg w18 hbox hb; replace HO417 := Aside0.mk (Kd.R_below (rx HO417) hb); have BK419 := Aside0.mk (hbox); have GW419 := bge HB hg; have GE419 := bge HB hg; replace HB := bh HB hb; have NB411_419 := nbl BK411 hg; have NB419_411 := nbg BK411 hg; replace BK411 := bb BK411 hb; clear hb hbox hg; have hnb19 := NB419_411.out; have hnc19 := NB411_419.out; obtain ⟨hcz20_0, hcz20_1⟩ := cz2 BK419; obtain ⟨hfz20_0, hfz20_1⟩ := fz2 BK419) | ((with_reducible refine gate_callee (f := 10) rfl ?_); refine goesB (some 28) rfl rfl Try.func10 #[.agg #[.int .i64 t413, .int .i64 t414], .slice A1 l1.length c1] rfl ?_; (with_reducible refine (span_Line.calls t413 t414 _ _ l1 t420 t421 t422 t425 _ ?side1 ?side2 A9.out).mono ?_); (case side1 => exact Kd.C_below HR1.out (bw HB)); (case side2 => exact HC1.out); rintro e w21 ⟨v423, rfl, ho0, hb⟩; refine ⟨_, rfl, ?_⟩; have HO424 := Aside0.mk (Kd.R_lower (Kd.R_new' ho0 (Kd.R_lt (by (with_reducible repeat (first | apply Kd.R_alloc | apply Kd.R_drewN | apply Kd.R_drew)); exact (Kd.R_mono (Kd.R_far (p := ⟨gb419, 1, none⟩) (Kd.R_far (p := ⟨gb419, 0, none⟩) (Kd.R_types HO417.out BK419.out (by decide)) (fun _ hk => hk.2) (.int .i64 t413)) (fun _ hk => hk.2) (.int .i64 t414)) (fun _ h_ => h_.1))))) (below_size (bw HB))); replace HO417 := Aside0.mk (Kd.R_elder' (by (with_reducible repeat (first | apply Kd.R_alloc | apply Kd.R_drewN | apply Kd.R_drew)); exact (Kd.R_mono (Kd.R_far (p := ⟨gb419, 1, none⟩) (Kd.R_far (p := ⟨gb419, 0, none⟩) (Kd.R_types HO417.out BK419.out (by decide)) (fun _ hk => hk.2) (.int .i64 t413)) (fun _ hk => hk.2) (.int .i64 t414)) (fun _ h_ => h_.1))) (Kd.R_base ho0) hb); replace BK411 := bb BK411 hb; replace BK419 := Aside0.mk (blk_below (o := .cells #[.int .i64 t413, .int .i64 t414] 23 (0, 0)) (bp BK419) hb); replace HB := bh HB hb; (try clear hb); (try clear hb2); (try clear hk); (try clear hi); (try clear ho0)) | ((with_reducible refine gate_dst (N := 8) rfl ?_); refine box_event ?hg (N := 8) ?hd (cs := #[.int .i64 0, .int .i64 0]) (t := 23) ?hr ?_; (case hd => rfl); (case hg => rfl); (case hr => first | (go_simp; done) | (go_simp; rfl)); intro gb426 hg w22 hbox hb; replace HO417 := Aside0.mk (Kd.R_below (rx HO417) hb); replace HO424 := Aside0.mk (Kd.R_below (rx HO424) hb); have BK426 := Aside0.mk (hbox); have GW426 := bge HB hg; have GE426 := bge HB hg; replace HB := bh HB hb; have NB411_426 := nbl BK411 hg; have NB426_411 := nbg BK411 hg; replace BK411 := bb BK411 hb; have NB419_426 := nbl BK419 hg; have NB426_419 := nbg BK419 hg; replace BK419 := bb BK419 hb; clear hb hbox hg; have hnb23 := NB426_411.out; have hnc23 := NB411_426.out; have hnb24 := NB426_419.out; have hnc24 := NB419_426.out; obtain ⟨hcz25_0, hcz25_1⟩ := cz2 BK426; obtain ⟨hfz25_0, hfz25_1⟩ := fz2 BK426; obtain ⟨hcz26_0, hcz26_1⟩ := cz2 BK419; obtain ⟨hfz26_0, hfz26_1⟩ := fz2 BK419; obtain ⟨Ao27, co27, eo27⟩ := Kd.R_slice HO417.out; subst eo27; obtain ⟨Ao28, co28, eo28⟩ := Kd.R_slice HO424.out; subst eo28) | (go_at_call 12; (with_reducible refine (stickfulref20_Same.calls k _ _ t415 _ _ t422 true _ ?side1 ?side2 ?side3 ?side4 A12.out).mono ?_); (case side1 => refine (Kd.R_reads' (e := 2) (base := w.heap.size) (ok := fun k_ => (True ∧ some k_ ≠ (.slice Ao28 t422.length co28 : Value).ownBlock)) (n := t415.length) (c := co27) ?_).2.2; exact (by (with_reducible repeat (first | apply Kd.R_alloc | apply Kd.R_drewN | apply Kd.R_drew)); exact (Kd.R_mono (Kd.R_far (p := ⟨gb426, 1, none⟩) (Kd.R_far (p := ⟨gb426, 0, none⟩) (Kd.R_types HO417.out BK426.out (by decide)) (fun _ hk => hk.2) (.int .i64 t420)) (fun _ hk => hk.2) (.int .i64 t421)) (fun _ h_ => h_.1)))); (case side2 => exact (Kd.R_reads' HO417.out).2.1); (case side3 => refine (Kd.R_reads' (e := 2) (base := w.heap.size) (ok := fun k_ => (True ∧ some k_ ≠ (.slice Ao27 t415.length co27 : Value).ownBlock)) (n := t422.length) (c := co28) ?_).2.2; exact (by (with_reducible repeat (first | apply Kd.R_alloc | apply Kd.R_drewN | apply Kd.R_drew)); exact (Kd.R_mono (Kd.R_far (p := ⟨gb426, 1, none⟩) (Kd.R_far (p := ⟨gb426, 0, none⟩) (Kd.R_types HO424.out BK426.out (by decide)) (fun _ hk => hk.2) (.int .i64 t420)) (fun _ hk => hk.2) (.int .i64 t421)) (fun _ h_ => h_.1)))); (case side4 => exact (Kd.R_reads' HO424.out).2.1); rintro e w' ⟨rfl, ⟨nd, rfl⟩⟩) | (go_at_call 9; (with_reducible refine (stickfullaw20_head.calls k  t428 _ A14.out).mono ?_); rintro e w29 ⟨rfl, hb⟩; replace HO417 := Aside0.mk (Kd.R_below (by (with_reducible repeat (first | apply Kd.R_alloc | apply Kd.R_drewN | apply Kd.R_drew)); exact (Kd.R_mono (Kd.R_far (p := ⟨gb426, 1, none⟩) (Kd.R_far (p := ⟨gb426, 0, none⟩) (Kd.R_types HO417.out BK426.out (by decide)) (fun _ hk => hk.2) (.int .i64 t420)) (fun _ hk => hk.2) (.int .i64 t421)) (fun _ h_ => h_.1))) hb); replace HO424 := Aside0.mk (Kd.R_below (by (with_reducible repeat (first | apply Kd.R_alloc | apply Kd.R_drewN | apply Kd.R_drew)); exact (Kd.R_mono (Kd.R_far (p := ⟨gb426, 1, none⟩) (Kd.R_far (p := ⟨gb426, 0, none⟩) (Kd.R_types HO424.out BK426.out (by decide)) (fun _ hk => hk.2) (.int .i64 t420)) (fun _ hk => hk.2) (.int .i64 t421)) (fun _ h_ => h_.1))) hb); replace BK411 := bb BK411 hb; replace BK419 := bb BK419 hb; replace BK426 := Aside0.mk (blk_below (o := .cells #[.int .i64 t420, .int .i64 t421] 23 (0, 0)) (bp BK426) hb); replace HB := bh HB hb; (try clear hb); (try clear hb2); (try clear hk); (try clear hi)))
            go_ret
            exact ⟨by first | rfl | (simp [errW_none, errW_some] <;> rfl) | (simp [*, errW_none, errW_some] <;> rfl), by repeat (first | (with_reducible first | exact HB.out | apply below_alloc | apply pw_below_drewN | apply below_drew1 | refine below_set ?_ GE411.out | refine below_set ?_ GE419.out | refine below_set ?_ GE426.out) | exact HB.out)⟩
          · replace c13 := Bool.eq_false_iff.mpr c13
            subst c13
            have H1 : (some false) = some r := by rw [if_neg (show ¬ (false = true) by decide)] at H; exact H
            clear H
            have H := H1
            clear H1
            exact absurd ((Option.some.inj H).trans HR_.out) (by decide)
        · rw [if_neg c11] at H
          have c11b0 : (t413 == t420 && (t414 == t421)) = false := by simpa using c11
          (try (have c11b1 : decide (t413 = t420 && (t414 == t421)) = false := by simpa using c11))
          (try (have c11b2 : (t413 == t420 && (t414 == t421)) = false := by simpa using c11))
          (try (have c11b3 : ¬ (t413 = t420 && (t414 == t421)) := by simpa using c11))
          clear c11
          exact absurd ((Option.some.inj H).trans HR_.out) (by decide)
      · rw [if_neg c10] at H
        have c10b0 : (t425 == 0) = false := beq_eq_false_iff_ne.mpr c10
        have c10b1 : (t425 != 0) = true := bne_iff_ne.mpr c10
        replace H := Option.bind_eq_some_iff.mp H
        obtain ⟨t429, A300, H⟩ := H
        replace H : (some t429) = some r := H
        have A30 := Aside0.mk A300
        clear A300
        obtain rfl := Option.some.inj H
        go_enter Try.func8, Try.ntmps8
        go_wp2_with (first | ((with_reducible refine gate_dst (N := 2) rfl ?_); refine box_event ?hg (N := 2) ?hd (cs := #[.int .i64 a0_0, .int .i64 a0_1]) (t := 23) ?hr ?_; (case hd => rfl); (case hg => rfl); (case hr => first | (go_simp; done) | (go_simp; rfl)); intro gb411 hg w31 hbox hb; have BK411 := Aside0.mk (hbox); have GW411 := bge HB hg; have GE411 := bge HB hg; replace HB := bh HB hb; clear hb hbox hg; obtain ⟨hcz32_0, hcz32_1⟩ := cz2 BK411; obtain ⟨hfz32_0, hfz32_1⟩ := fz2 BK411) | ((with_reducible refine gate_callee (f := 10) rfl ?_); refine goesB (some 18) rfl rfl Try.func10 #[.agg #[.int .i64 a0_0, .int .i64 a0_1], .slice A1 l1.length c1] rfl ?_; (with_reducible refine (span_Line.calls a0_0 a0_1 _ _ l1 t413 t414 t415 t418 _ ?side1 ?side2 A7.out).mono ?_); (case side1 => repeat (first | exact (Kd.C_below HR1.out HB.out) | (with_reducible refine Kd.C_alloc ?_ _) | (with_reducible refine Kd.C_drewN ?_ _) | (with_reducible refine Kd.C_drew ?_))); (case side2 => exact HC1.out); rintro e w33 ⟨v416, rfl, ho0, hb⟩; refine ⟨_, rfl, ?_⟩; have HO417 := Aside0.mk (Kd.R_lower ho0 (below_size (bw HB))); replace BK411 := bb BK411 hb; replace HB := bh HB hb; (try clear hb); (try clear hb2); (try clear hk); (try clear hi); (try clear ho0)) | ((with_reducible refine gate_dst (N := 5) rfl ?_); refine box_event ?hg (N := 5) ?hd (cs := #[.int .i64 0, .int .i64 0]) (t := 23) ?hr ?_; (case hd => rfl); (case hg => rfl); (case hr => first | (go_simp; done) | (go_simp; rfl)); intro gb419 hg w34 hbox hb; replace HO417 := Aside0.mk (Kd.R_below (rx HO417) hb); have BK419 := Aside0.mk (hbox); have GW419 := bge HB hg; have GE419 := bge HB hg; replace HB := bh HB hb; have NB411_419 := nbl BK411 hg; have NB419_411 := nbg BK411 hg; replace BK411 := bb BK411 hb; clear hb hbox hg; have hnb35 := NB419_411.out; have hnc35 := NB411_419.out; obtain ⟨hcz36_0, hcz36_1⟩ := cz2 BK419; obtain ⟨hfz36_0, hfz36_1⟩ := fz2 BK419) | ((with_reducible refine gate_callee (f := 10) rfl ?_); refine goesB (some 28) rfl rfl Try.func10 #[.agg #[.int .i64 t413, .int .i64 t414], .slice A1 l1.length c1] rfl ?_; (with_reducible refine (span_Line.calls t413 t414 _ _ l1 t420 t421 t422 t425 _ ?side1 ?side2 A9.out).mono ?_); (case side1 => exact Kd.C_below HR1.out (bw HB)); (case side2 => exact HC1.out); rintro e w37 ⟨v423, rfl, ho0, hb⟩; refine ⟨_, rfl, ?_⟩; have HO424 := Aside0.mk (Kd.R_lower (Kd.R_new' ho0 (Kd.R_lt (by (with_reducible repeat (first | apply Kd.R_alloc | apply Kd.R_drewN | apply Kd.R_drew)); exact (Kd.R_mono (Kd.R_far (p := ⟨gb419, 1, none⟩) (Kd.R_far (p := ⟨gb419, 0, none⟩) (Kd.R_types HO417.out BK419.out (by decide)) (fun _ hk => hk.2) (.int .i64 t413)) (fun _ hk => hk.2) (.int .i64 t414)) (fun _ h_ => h_.1))))) (below_size (bw HB))); replace HO417 := Aside0.mk (Kd.R_elder' (by (with_reducible repeat (first | apply Kd.R_alloc | apply Kd.R_drewN | apply Kd.R_drew)); exact (Kd.R_mono (Kd.R_far (p := ⟨gb419, 1, none⟩) (Kd.R_far (p := ⟨gb419, 0, none⟩) (Kd.R_types HO417.out BK419.out (by decide)) (fun _ hk => hk.2) (.int .i64 t413)) (fun _ hk => hk.2) (.int .i64 t414)) (fun _ h_ => h_.1))) (Kd.R_base ho0) hb); replace BK411 := bb BK411 hb; replace BK419 := Aside0.mk (blk_below (o := .cells #[.int .i64 t413, .int .i64 t414] 23 (0, 0)) (bp BK419) hb); replace HB := bh HB hb; (try clear hb); (try clear hb2); (try clear hk); (try clear hi); (try clear ho0)) | ((with_reducible refine gate_dst (N := 8) rfl ?_); refine box_event ?hg (N := 8) ?hd (cs := #[.int .i64 0, .int .i64 0]) (t := 23) ?hr ?_; (case hd => rfl); (case hg => rfl); (case hr => first | (go_simp; done) | (go_simp; rfl)); intro gb426 hg w38 hbox hb; replace HO417 := Aside0.mk (Kd.R_below (rx HO417) hb); replace HO424 := Aside0.mk (Kd.R_below (rx HO424) hb); have BK426 := Aside0.mk (hbox); have GW426 := bge HB hg; have GE426 := bge HB hg; replace HB := bh HB hb; have NB411_426 := nbl BK411 hg; have NB426_411 := nbg BK411 hg; replace BK411 := bb BK411 hb; have NB419_426 := nbl BK419 hg; have NB426_419 := nbg BK419 hg; replace BK419 := bb BK419 hb; clear hb hbox hg; have hnb39 := NB426_411.out; have hnc39 := NB411_426.out; have hnb40 := NB426_419.out; have hnc40 := NB419_426.out; obtain ⟨hcz41_0, hcz41_1⟩ := cz2 BK426; obtain ⟨hfz41_0, hfz41_1⟩ := fz2 BK426) | (go_at_call 9; (with_reducible refine (stickfullaw20_head.calls k  t429 _ A30.out).mono ?_); rintro e w42 ⟨rfl, hb⟩; replace HO417 := Aside0.mk (Kd.R_below (by (with_reducible repeat (first | apply Kd.R_alloc | apply Kd.R_drewN | apply Kd.R_drew)); exact (Kd.R_mono (Kd.R_far (p := ⟨gb426, 1, none⟩) (Kd.R_far (p := ⟨gb426, 0, none⟩) (Kd.R_types HO417.out BK426.out (by decide)) (fun _ hk => hk.2) (.int .i64 t420)) (fun _ hk => hk.2) (.int .i64 t421)) (fun _ h_ => h_.1))) hb); replace HO424 := Aside0.mk (Kd.R_below (by (with_reducible repeat (first | apply Kd.R_alloc | apply Kd.R_drewN | apply Kd.R_drew)); exact (Kd.R_mono (Kd.R_far (p := ⟨gb426, 1, none⟩) (Kd.R_far (p := ⟨gb426, 0, none⟩) (Kd.R_types HO424.out BK426.out (by decide)) (fun _ hk => hk.2) (.int .i64 t420)) (fun _ hk => hk.2) (.int .i64 t421)) (fun _ h_ => h_.1))) hb); replace BK411 := bb BK411 hb; replace BK419 := bb BK419 hb; replace BK426 := Aside0.mk (blk_below (o := .cells #[.int .i64 t420, .int .i64 t421] 23 (0, 0)) (bp BK426) hb); replace HB := bh HB hb; (try clear hb); (try clear hb2); (try clear hk); (try clear hi)))
        go_ret
        exact ⟨by first | rfl | (simp [errW_none, errW_some] <;> rfl) | (simp [*, errW_none, errW_some] <;> rfl), by repeat (first | (with_reducible first | exact HB.out | apply below_alloc | apply pw_below_drewN | apply below_drew1 | refine below_set ?_ GE411.out | refine below_set ?_ GE419.out | refine below_set ?_ GE426.out) | exact HB.out)⟩
    · rw [if_neg c8] at H
      have c8b0 : (t418 == 0) = false := beq_eq_false_iff_ne.mpr c8
      have c8b1 : (t418 != 0) = true := bne_iff_ne.mpr c8
      replace H := Option.bind_eq_some_iff.mp H
      obtain ⟨t430, A430, H⟩ := H
      replace H : (some t430) = some r := H
      have A43 := Aside0.mk A430
      clear A430
      obtain rfl := Option.some.inj H
      go_enter Try.func8, Try.ntmps8
      go_wp2_with (first | ((with_reducible refine gate_dst (N := 2) rfl ?_); refine box_event ?hg (N := 2) ?hd (cs := #[.int .i64 a0_0, .int .i64 a0_1]) (t := 23) ?hr ?_; (case hd => rfl); (case hg => rfl); (case hr => first | (go_simp; done) | (go_simp; rfl)); intro gb411 hg w44 hbox hb; have BK411 := Aside0.mk (hbox); have GW411 := bge HB hg; have GE411 := bge HB hg; replace HB := bh HB hb; clear hb hbox hg; obtain ⟨hcz45_0, hcz45_1⟩ := cz2 BK411; obtain ⟨hfz45_0, hfz45_1⟩ := fz2 BK411) | ((with_reducible refine gate_callee (f := 10) rfl ?_); refine goesB (some 18) rfl rfl Try.func10 #[.agg #[.int .i64 a0_0, .int .i64 a0_1], .slice A1 l1.length c1] rfl ?_; (with_reducible refine (span_Line.calls a0_0 a0_1 _ _ l1 t413 t414 t415 t418 _ ?side1 ?side2 A7.out).mono ?_); (case side1 => repeat (first | exact (Kd.C_below HR1.out HB.out) | (with_reducible refine Kd.C_alloc ?_ _) | (with_reducible refine Kd.C_drewN ?_ _) | (with_reducible refine Kd.C_drew ?_))); (case side2 => exact HC1.out); rintro e w46 ⟨v416, rfl, ho0, hb⟩; refine ⟨_, rfl, ?_⟩; have HO417 := Aside0.mk (Kd.R_lower ho0 (below_size (bw HB))); replace BK411 := bb BK411 hb; replace HB := bh HB hb; (try clear hb); (try clear hb2); (try clear hk); (try clear hi); (try clear ho0)) | ((with_reducible refine gate_dst (N := 5) rfl ?_); refine box_event ?hg (N := 5) ?hd (cs := #[.int .i64 0, .int .i64 0]) (t := 23) ?hr ?_; (case hd => rfl); (case hg => rfl); (case hr => first | (go_simp; done) | (go_simp; rfl)); intro gb419 hg w47 hbox hb; replace HO417 := Aside0.mk (Kd.R_below (rx HO417) hb); have BK419 := Aside0.mk (hbox); have GW419 := bge HB hg; have GE419 := bge HB hg; replace HB := bh HB hb; have NB411_419 := nbl BK411 hg; have NB419_411 := nbg BK411 hg; replace BK411 := bb BK411 hb; clear hb hbox hg; have hnb48 := NB419_411.out; have hnc48 := NB411_419.out; obtain ⟨hcz49_0, hcz49_1⟩ := cz2 BK419; obtain ⟨hfz49_0, hfz49_1⟩ := fz2 BK419) | ((with_reducible refine gate_callee (f := 9) rfl ?_); refine goesB (some 24) rfl rfl Try.func9 #[] rfl ?_; (with_reducible refine (stickfullaw20_head.calls k  t430 _ A43.out).mono ?_); rintro e w50 ⟨rfl, hb⟩; refine ⟨_, rfl, ?_⟩; replace HO417 := Aside0.mk (Kd.R_below (by (with_reducible repeat (first | apply Kd.R_alloc | apply Kd.R_drewN | apply Kd.R_drew)); exact (Kd.R_mono (Kd.R_far (p := ⟨gb419, 1, none⟩) (Kd.R_far (p := ⟨gb419, 0, none⟩) (Kd.R_types HO417.out BK419.out (by decide)) (fun _ hk => hk.2) (.int .i64 t413)) (fun _ hk => hk.2) (.int .i64 t414)) (fun _ h_ => h_.1))) hb); replace BK411 := bb BK411 hb; replace BK419 := Aside0.mk (blk_below (o := .cells #[.int .i64 t413, .int .i64 t414] 23 (0, 0)) (bp BK419) hb); replace HB := bh HB hb; (try clear hb); (try clear hb2); (try clear hk); (try clear hi)))
      go_ret
      exact ⟨by first | rfl | (simp [errW_none, errW_some] <;> rfl) | (simp [*, errW_none, errW_some] <;> rfl), by repeat (first | (with_reducible first | exact HB.out | apply below_alloc | apply pw_below_drewN | apply below_drew1 | refine below_set ?_ GE411.out | refine below_set ?_ GE419.out) | exact HB.out)⟩

end Go.Proofs.Ytfcdljnjhljjgaa.HSpan
