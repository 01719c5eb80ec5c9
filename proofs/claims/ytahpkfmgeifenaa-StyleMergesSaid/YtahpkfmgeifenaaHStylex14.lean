-- Written by this claim's own program over the kit's print.
import Derived.Test.YtahpkfmgeifenaaHStyleb
import Derived.Test.YtahpkfmgeifenaaHStylex0
import Derived.Test.YtahpkfmgeifenaaHStylex1
import Derived.Test.YtahpkfmgeifenaaHStylex2
import Derived.Test.YtahpkfmgeifenaaHStylex4
import Derived.Test.YtahpkfmgeifenaaHStylex7
import Derived.Test.YtahpkfmgeifenaaHStylex8
import Derived.Test.YtahpkfmgeifenaaHStylex10
import Derived.Test.YtahpkfmgeifenaaHStylex13
namespace Go.Proofs.Ytahpkfmgeifenaa.HStyle
open Go.RowKit Go.Proofs.YtahpkfmgeifenaaW.PrintWords Go.Proofs.YtahpkfmgeifenaaW.PrintLast Go.Proofs.YtahpkfmgeifenaaW.PrintMore Go.Proofs.Ytahpkfmgeifenaa.Hand
attribute [local go_sem] max2_int min2_int max_two min_two max_three min_three max_four min_four   -- for this text's walks alone
set_option linter.unusedVariables false
set_option linter.unusedSimpArgs false

attribute [local go_sem high] eqA23 eqA26
/-! ### stickfullaw06_StyleNodes: function 4 -/
def stickfullaw06_StyleNodes.j0 : Nat → List Int → List (S26) → Bool → Int → Int → Int → Int → Int → Int → Int → Int → Int → Option (Bool)
  | 0, _, _, _, _, _, _, _, _, _, _, _, _ => none
  | k + 1, x1, x2, x18, x417000, x417001, x417002, x417003, x417004, x417005, x417006, x417007, x417008 => if x18 = true then ((stickfullaw06_head.f k).bind fun t417 => (some t417)) else ((style_Styles.f k x417000 x417001 x417002 x417003 x417004 x417005 x417006 x417007 x417008 x1 x2).bind fun bt418 => ((stickfulref06_Styles.f k x417000 x417001 x417002 x417003 x417004 x417005 x417006 x417007 x417008 x1 x2).bind fun bt422 => ((stickfulref06_Same.f k bt418.1 bt422.1).bind fun t426 => (if t426 = true then (if bt418.2 = bt422.2 then ((stickfullaw06_head.f k).bind fun t427 => (some t427)) else (some false)) else (some false)))))
def stickfullaw06_StyleNodes.f (k : Nat) (a0_0 a0_1 a0_2 a0_3 a0_4 a0_5 a0_6 a0_7 a0_8 : Int) (l1 : List Int) (l2 : List (S26)) : Option (Bool) := if (l1.length : Int) > 200 then (stickfullaw06_StyleNodes.j0 k l1 l2 true a0_0 a0_1 a0_2 a0_3 a0_4 a0_5 a0_6 a0_7 a0_8) else (stickfullaw06_StyleNodes.j0 k l1 l2 (decide ((l2.length : Int) > 200)) a0_0 a0_1 a0_2 a0_3 a0_4 a0_5 a0_6 a0_7 a0_8)
theorem stickfullaw06_StyleNodes.mono_l : ∀ k, (∀ y0 y1 y2 y3 y4 y5 y6 y7 y8 y9 y10 y11, LeO (stickfullaw06_StyleNodes.j0 k y0 y1 y2 y3 y4 y5 y6 y7 y8 y9 y10 y11) (stickfullaw06_StyleNodes.j0 (k + 1) y0 y1 y2 y3 y4 y5 y6 y7 y8 y9 y10 y11))
  | 0 => fun _ _ _ _ _ _ _ _ _ _ _ _ r h => by simp [stickfullaw06_StyleNodes.j0] at h
  | k + 1 => by
    have ih0 := stickfullaw06_StyleNodes.mono_l k
    · intro y0 y1 y2 y3 y4 y5 y6 y7 y8 y9 y10 y11
      unfold stickfullaw06_StyleNodes.j0
      repeat' first
      | (with_reducible exact ih0 _ _ _ _ _ _ _ _ _ _ _ _)
      | (with_reducible exact stickfullaw06_head.mono _)
      | (with_reducible exact stickfulref06_Same.mono _ _ _)
      | (with_reducible exact stickfulref06_Styles.mono _ _ _ _ _ _ _ _ _ _ _ _)
      | (with_reducible exact style_Styles.mono _ _ _ _ _ _ _ _ _ _ _ _)
      | (with_reducible exact LeO.refl _)
      | (with_reducible exact LeO.none _)
      | (with_reducible refine LeO.ite ?_ ?_)
      | (with_reducible refine LeO.bind ?_ (fun _ => ?_))
      | exact ih0 _ _ _ _ _ _ _ _ _ _ _ _
      | exact stickfullaw06_head.mono _
      | exact stickfulref06_Same.mono _ _ _
      | exact stickfulref06_Styles.mono _ _ _ _ _ _ _ _ _ _ _ _
      | exact style_Styles.mono _ _ _ _ _ _ _ _ _ _ _ _
      | exact LeO.none _
      | refine LeO.ite ?_ ?_
      | refine LeO.bind ?_ (fun _ => ?_)
theorem stickfullaw06_StyleNodes.mono : ∀ a0 a1 a2 a3 a4 a5 a6 a7 a8 a9 a10 k, LeO (stickfullaw06_StyleNodes.f k a0 a1 a2 a3 a4 a5 a6 a7 a8 a9 a10) (stickfullaw06_StyleNodes.f (k + 1) a0 a1 a2 a3 a4 a5 a6 a7 a8 a9 a10) := by
  intro a0 a1 a2 a3 a4 a5 a6 a7 a8 a9 a10 k
  have ih0 := stickfullaw06_StyleNodes.mono_l k
  unfold stickfullaw06_StyleNodes.f
  repeat' first
      | (with_reducible exact ih0 _ _ _ _ _ _ _ _ _ _ _ _)
      | (with_reducible exact stickfullaw06_head.mono _)
      | (with_reducible exact stickfulref06_Same.mono _ _ _)
      | (with_reducible exact stickfulref06_Styles.mono _ _ _ _ _ _ _ _ _ _ _ _)
      | (with_reducible exact style_Styles.mono _ _ _ _ _ _ _ _ _ _ _ _)
      | (with_reducible exact LeO.refl _)
      | (with_reducible exact LeO.none _)
      | (with_reducible refine LeO.ite ?_ ?_)
      | (with_reducible refine LeO.bind ?_ (fun _ => ?_))
      | exact ih0 _ _ _ _ _ _ _ _ _ _ _ _
      | exact stickfullaw06_head.mono _
      | exact stickfulref06_Same.mono _ _ _
      | exact stickfulref06_Styles.mono _ _ _ _ _ _ _ _ _ _ _ _
      | exact style_Styles.mono _ _ _ _ _ _ _ _ _ _ _ _
      | exact LeO.none _
      | refine LeO.ite ?_ ?_
      | refine LeO.bind ?_ (fun _ => ?_)
set_option maxHeartbeats 8000000 in
set_option maxRecDepth 100000 in
theorem stickfullaw06_StyleNodes.calls_t (k : Nat) (a0_0 a0_1 a0_2 a0_3 a0_4 a0_5 a0_6 a0_7 a0_8 : Int) (A1 : Option Addr) (c1 : Nat) (l1 : List Int) (A2 : Option Addr) (c2 : Nat) (l2 : List (S26)) (r : Bool) (w : World) (hr1 : Kd.C (Kd.int .i64) w A1 l1.length l1) (hc1 : l1.length ≤ c1) (hr2 : Kd.C k26 w A2 l2.length l2) (hc2 : l2.length ≤ c2) (h : stickfullaw06_StyleNodes.f k a0_0 a0_1 a0_2 a0_3 a0_4 a0_5 a0_6 a0_7 a0_8 l1 l2 = some r) (hr_ : r = true) :
    Calls Try.prog 4 #[.agg #[.int .u8 a0_0, .int .u8 a0_1, .int .u8 a0_2, .int .u8 a0_3, .int .i64 a0_4, .int .i64 a0_5, .int .i64 a0_6, .int .u8 a0_7, .int .i64 a0_8], .slice A1 l1.length c1, .slice A2 l2.length c2] w fun e w' => e = .returned (.bool r) ∧ Below w.heap.size w w' := by
  have hu23 := Try.underlying23
  have HR_ := Aside0.mk hr_
  clear hr_
  have HR1 := Aside0.mk hr1
  have HC1 := Aside0.mk hc1
  clear hr1 hc1
  have HR2 := Aside0.mk hr2
  have HC2 := Aside0.mk hc2
  clear hr2 hc2
  have HB := Aside0.mk (Below.refl w.heap.size w)
  have H : (if (l1.length : Int) > 200 then (stickfullaw06_StyleNodes.j0 k l1 l2 true a0_0 a0_1 a0_2 a0_3 a0_4 a0_5 a0_6 a0_7 a0_8) else (stickfullaw06_StyleNodes.j0 k l1 l2 (decide ((l2.length : Int) > 200)) a0_0 a0_1 a0_2 a0_3 a0_4 a0_5 a0_6 a0_7 a0_8)) = some r := h
  clear h
  have HC4 := Aside0.mk H
  clear H
  go_enter Try.func4, Try.ntmps4
  go_upto_region 1 with (first | ((with_reducible refine gate_dst (N := 3) rfl ?_); (try (refine gate_guard (by rfl) ?_; dsimp only)); refine box_event ?hg (N := 3) ?hd (cs := #[.int .u8 a0_0, .int .u8 a0_1, .int .u8 a0_2, .int .u8 a0_3, .int .i64 a0_4, .int .i64 a0_5, .int .i64 a0_6, .int .u8 a0_7, .int .i64 a0_8]) (t := 23) ?hr ?_; (case hd => rfl); (case hg => rfl); (case hr => first | (go_simp; done) | (go_simp; rfl)); intro gb416 hg w5 hbox hb; have BK416 := Aside0.mk (hbox); have GW416 := bge HB hg; have GE416 := bge HB hg; replace HB := bh HB hb; clear hb hbox hg))
  (try simp only [Act.put, List.setIfInBounds_toArray, List.set_cons_zero, List.set_cons_succ])
  go_cut [18] (fun v18 wc => ∃ (kq : Nat) (x18_3 : Bool), v18 = .bool x18_3 ∧ Aside0 (stickfullaw06_StyleNodes.j0 kq l1 l2 x18_3 a0_0 a0_1 a0_2 a0_3 a0_4 a0_5 a0_6 a0_7 a0_8 = some r) ∧ Aside0 (kq ≤ k) ∧ Aside0 (wc.heap[gb416]? = some (.cells #[.int .u8 a0_0, .int .u8 a0_1, .int .u8 a0_2, .int .u8 a0_3, .int .i64 a0_4, .int .i64 a0_5, .int .i64 a0_6, .int .u8 a0_7, .int .i64 a0_8] 23 (0, 0))) ∧ Aside0 (Below w.heap.size w wc))
  case first =>
    have H := HC4.out
    clear HC4
    by_cases c6 : (l1.length : Int) > 200
    · rw [if_pos c6] at H
      have c6b0 : decide (200 < (l1.length : Int)) = true := decide_eq_true c6
      have c6b1 : decide (200 < l1.length) = true := decide_eq_true (by omega)
      clear c6
      (first | rw [c6b0] | (simp only [i64_w, i32_w]; rw [c6b0]) | skip)
      have H' := Aside0.mk H
      clear H
      go_wp2
      go_meet
      case rel => exact ⟨_, (true), (by first | rfl | (simp; done) | (simp [*]; done)), H', ⟨by first | omega | exact Nat.le_refl _⟩, ⟨by (with_reducible repeat (first | refine blk_drewN ?_ _ | refine blk_drew ?_ | refine blk_alloc ?_ _)); exact BK416.out⟩, ⟨by repeat (first | (with_reducible first | exact HB.out | apply below_alloc | apply pw_below_drewN | apply below_drew1 | refine below_set ?_ GE416.out) | exact HB.out)⟩⟩
    · rw [if_neg c6] at H
      have c6b0 : decide (200 < (l1.length : Int)) = false := decide_eq_false c6
      have c6b1 : decide (200 < l1.length) = false := decide_eq_false (by omega)
      clear c6
      (first | rw [c6b0] | (simp only [i64_w, i32_w]; rw [c6b0]) | skip)
      have H' := Aside0.mk H
      clear H
      go_wp2
      go_meet
      case rel => exact ⟨_, (decide ((l2.length : Int) > 200)), (by first | rfl | (simp; done) | (simp [*]; done)), H', ⟨by first | omega | exact Nat.le_refl _⟩, ⟨by (with_reducible repeat (first | refine blk_drewN ?_ _ | refine blk_drew ?_ | refine blk_alloc ?_ _)); exact BK416.out⟩, ⟨by repeat (first | (with_reducible first | exact HB.out | apply below_alloc | apply pw_below_drewN | apply below_drew1 | refine below_set ?_ GE416.out) | exact HB.out)⟩⟩
  case rest =>
    clear HC4
    try clear c1
    try clear c2
    try clear p2
    try clear c4
    try clear c6
    try clear c6b0
    try clear c6b1
    obtain ⟨kq, x18_3, rfl, HA, HJ3, BK416, HB⟩ := hcut
    cases kq with
    | zero => exact absurd HA.out (by simp [stickfullaw06_StyleNodes.j0])
    | succ kj3 =>
      have H := HA.out
      clear HA
      simp only [stickfullaw06_StyleNodes.j0] at H
      by_cases c7 : x18_3 = true
      · subst c7
        have H1 : ((stickfullaw06_head.f kj3).bind fun t417 => (some t417)) = some r := by rw [if_pos rfl] at H; exact H
        clear H
        have H := H1
        clear H1
        replace H := Option.bind_eq_some_iff.mp H
        obtain ⟨t417, A80, H⟩ := H
        replace H : (some t417) = some r := H
        have A8 := Aside0.mk A80
        clear A80
        obtain rfl := Option.some.inj H
        go_wp2_with (first | ((with_reducible refine gate_callee (f := 22) rfl ?_); refine goesB (some 19) rfl rfl Try.func22 #[] rfl ?_; (with_reducible refine (stickfullaw06_head.calls kj3  t417 _ A8.out).mono ?_); rintro e w9 ⟨rfl, hb⟩; refine ⟨_, rfl, ?_⟩; replace BK416 := bb BK416 hb; replace HB := bh HB hb; (try clear hb); (try clear hb2); (try clear hk); (try clear hi)))
        go_ret
        exact ⟨by first | rfl | (simp [errW_none, errW_some] <;> rfl) | (simp [*, errW_none, errW_some] <;> rfl), by repeat (first | (with_reducible first | exact HB.out | apply below_alloc | apply pw_below_drewN | apply below_drew1 | refine below_set ?_ GE416.out) | exact HB.out)⟩
      · replace c7 := Bool.eq_false_iff.mpr c7
        subst c7
        have H1 : ((style_Styles.f kj3 a0_0 a0_1 a0_2 a0_3 a0_4 a0_5 a0_6 a0_7 a0_8 l1 l2).bind fun bt418 => ((stickfulref06_Styles.f kj3 a0_0 a0_1 a0_2 a0_3 a0_4 a0_5 a0_6 a0_7 a0_8 l1 l2).bind fun bt422 => ((stickfulref06_Same.f kj3 bt418.1 bt422.1).bind fun t426 => (if t426 = true then (if bt418.2 = bt422.2 then ((stickfullaw06_head.f kj3).bind fun t427 => (some t427)) else (some false)) else (some false))))) = some r := by rw [if_neg (show ¬ (false = true) by decide)] at H; exact H
        clear H
        have H := H1
        clear H1
        replace H := Option.bind_eq_some_iff.mp H
        obtain ⟨⟨t418, t421⟩, A100, H⟩ := H
        replace H : ((stickfulref06_Styles.f kj3 a0_0 a0_1 a0_2 a0_3 a0_4 a0_5 a0_6 a0_7 a0_8 l1 l2).bind fun bt422 => ((stickfulref06_Same.f kj3 t418 bt422.1).bind fun t426 => (if t426 = true then (if t421 = bt422.2 then ((stickfullaw06_head.f kj3).bind fun t427 => (some t427)) else (some false)) else (some false)))) = some r := H
        have A10 := Aside0.mk A100
        clear A100
        replace H := Option.bind_eq_some_iff.mp H
        obtain ⟨⟨t422, t425⟩, A110, H⟩ := H
        replace H : ((stickfulref06_Same.f kj3 t418 t422).bind fun t426 => (if t426 = true then (if t421 = t425 then ((stickfullaw06_head.f kj3).bind fun t427 => (some t427)) else (some false)) else (some false))) = some r := H
        have A11 := Aside0.mk A110
        clear A110
        replace H := Option.bind_eq_some_iff.mp H
        obtain ⟨t426, A120, H⟩ := H
        replace H : (if t426 = true then (if t421 = t425 then ((stickfullaw06_head.f kj3).bind fun t427 => (some t427)) else (some false)) else (some false)) = some r := H
        have A12 := Aside0.mk A120
        clear A120
        by_cases c13 : t426 = true
        · subst c13
          have H1 : (if t421 = t425 then ((stickfullaw06_head.f kj3).bind fun t427 => (some t427)) else (some false)) = some r := by rw [if_pos rfl] at H; exact H
          clear H
          have H := H1
          clear H1
          by_cases c14 : t421 = t425
          · rw [if_pos c14] at H
            have c14b0 : (t421 == t425) = true := beq_iff_eq.mpr c14
            have c14b1 : (t421 != t425) = false := bne_eq_false_iff_eq.mpr c14
            clear c14
            replace H := Option.bind_eq_some_iff.mp H
            obtain ⟨t427, A150, H⟩ := H
            replace H : (some t427) = some r := H
            have A15 := Aside0.mk A150
            clear A150
            obtain rfl := Option.some.inj H
            obtain ⟨hcz16_0, hcz16_1, hcz16_2, hcz16_3, hcz16_4, hcz16_5, hcz16_6, hcz16_7, hcz16_8⟩ := cz9 BK416
            obtain ⟨hfz16_0, hfz16_1, hfz16_2, hfz16_3, hfz16_4, hfz16_5, hfz16_6, hfz16_7, hfz16_8⟩ := fz9 BK416
            go_wp2_with (first | ((with_reducible refine gate_callee (f := 23) rfl ?_); refine goesB (some 24) rfl rfl Try.func23 #[.agg #[.int .u8 a0_0, .int .u8 a0_1, .int .u8 a0_2, .int .u8 a0_3, .int .i64 a0_4, .int .i64 a0_5, .int .i64 a0_6, .int .u8 a0_7, .int .i64 a0_8], .slice A1 l1.length c1, .slice A2 l2.length c2] rfl ?_; (with_reducible refine (style_Styles.calls kj3 a0_0 a0_1 a0_2 a0_3 a0_4 a0_5 a0_6 a0_7 a0_8 _ _ l1 _ _ l2 t418 t421 _ ?side1 ?side2 ?side3 ?side4 A10.out).mono ?_); (case side1 => repeat (first | exact (Kd.C_below HR1.out HB.out) | (with_reducible refine Kd.C_alloc ?_ _) | (with_reducible refine Kd.C_drewN ?_ _) | (with_reducible refine Kd.C_drew ?_))); (case side2 => exact HC1.out); (case side3 => repeat (first | exact (Kd.C_below HR2.out HB.out) | (with_reducible refine Kd.C_alloc ?_ _) | (with_reducible refine Kd.C_drewN ?_ _) | (with_reducible refine Kd.C_drew ?_))); (case side4 => exact HC2.out); rintro e w17 ⟨v419, rfl, ho0, hb⟩; refine ⟨_, rfl, ?_⟩; have HO420 := Aside0.mk (Kd.R_lower (Kd.R_newB ho0 (bx BK416)) (below_size (bw HB))); replace BK416 := bb BK416 hb; replace HB := bh HB hb; (try clear hb); (try clear hb2); (try clear hk); (try clear hi); (try clear ho0); obtain ⟨hcz18_0, hcz18_1, hcz18_2, hcz18_3, hcz18_4, hcz18_5, hcz18_6, hcz18_7, hcz18_8⟩ := cz9 BK416; obtain ⟨hfz18_0, hfz18_1, hfz18_2, hfz18_3, hfz18_4, hfz18_5, hfz18_6, hfz18_7, hfz18_8⟩ := fz9 BK416) | ((with_reducible refine gate_callee (f := 24) rfl ?_); refine goesB (some 31) rfl rfl Try.func24 #[.agg #[.int .u8 a0_0, .int .u8 a0_1, .int .u8 a0_2, .int .u8 a0_3, .int .i64 a0_4, .int .i64 a0_5, .int .i64 a0_6, .int .u8 a0_7, .int .i64 a0_8], .slice A1 l1.length c1, .slice A2 l2.length c2] rfl ?_; (with_reducible refine (stickfulref06_Styles.calls kj3 a0_0 a0_1 a0_2 a0_3 a0_4 a0_5 a0_6 a0_7 a0_8 _ _ l1 _ _ l2 t422 t425 _ ?side1 ?side2 ?side3 ?side4 A11.out).mono ?_); (case side1 => repeat (first | exact (Kd.C_below HR1.out HB.out) | (with_reducible refine Kd.C_alloc ?_ _) | (with_reducible refine Kd.C_drewN ?_ _) | (with_reducible refine Kd.C_drew ?_))); (case side2 => exact HC1.out); (case side3 => repeat (first | exact (Kd.C_below HR2.out HB.out) | (with_reducible refine Kd.C_alloc ?_ _) | (with_reducible refine Kd.C_drewN ?_ _) | (with_reducible refine Kd.C_drew ?_))); (case side4 => exact HC2.out); rintro e w19 ⟨v423, rfl, ho0, hb⟩; refine ⟨_, rfl, ?_⟩; have HO424 := Aside0.mk (Kd.R_lower (Kd.R_newB (Kd.R_new' ho0 (Kd.R_lt (rx HO420))) (bx BK416)) (below_size (bw HB))); replace HO420 := Aside0.mk (Kd.R_elder' (rx HO420) (Kd.R_base ho0) hb); replace BK416 := bb BK416 hb; replace HB := bh HB hb; (try clear hb); (try clear hb2); (try clear hk); (try clear hi); (try clear ho0); obtain ⟨Ao20, co20, eo20⟩ := Kd.R_slice HO420.out; subst eo20; obtain ⟨Ao21, co21, eo21⟩ := Kd.R_slice HO424.out; subst eo21) | ((with_reducible refine gate_callee (f := 25) rfl ?_); refine goesB (some 36) rfl rfl Try.func25 #[.slice Ao20 t418.length co20, .slice Ao21 t422.length co21] rfl ?_; (with_reducible refine (stickfulref06_Same.calls kj3 _ _ t418 _ _ t422 true _ ?side1 ?side2 ?side3 ?side4 A12.out).mono ?_); (case side1 => repeat (first | exact (Kd.R_reads' HO420.out).2.2 | (with_reducible refine Kd.C_alloc ?_ _) | (with_reducible refine Kd.C_drewN ?_ _) | (with_reducible refine Kd.C_drew ?_))); (case side2 => exact (Kd.R_reads' HO420.out).2.1); (case side3 => repeat (first | exact (Kd.R_reads' HO424.out).2.2 | (with_reducible refine Kd.C_alloc ?_ _) | (with_reducible refine Kd.C_drewN ?_ _) | (with_reducible refine Kd.C_drew ?_))); (case side4 => exact (Kd.R_reads' HO424.out).2.1); rintro e w' ⟨rfl, ⟨nd, rfl⟩⟩; refine ⟨_, rfl, ?_⟩) | (go_at_call 22; (with_reducible refine (stickfullaw06_head.calls kj3  t427 _ A15.out).mono ?_); rintro e w22 ⟨rfl, hb⟩; replace HO420 := Aside0.mk (Kd.R_below (rx HO420) hb); replace HO424 := Aside0.mk (Kd.R_below (rx HO424) hb); replace BK416 := bb BK416 hb; replace HB := bh HB hb; (try clear hb); (try clear hb2); (try clear hk); (try clear hi)))
            go_ret
            exact ⟨by first | rfl | (simp [errW_none, errW_some] <;> rfl) | (simp [*, errW_none, errW_some] <;> rfl), by repeat (first | (with_reducible first | exact HB.out | apply below_alloc | apply pw_below_drewN | apply below_drew1 | refine below_set ?_ GE416.out) | exact HB.out)⟩
          · rw [if_neg c14] at H
            have c14b0 : (t421 == t425) = false := beq_eq_false_iff_ne.mpr c14
            have c14b1 : (t421 != t425) = true := bne_iff_ne.mpr c14
            exact absurd ((Option.some.inj H).trans HR_.out) (by decide)
        · replace c13 := Bool.eq_false_iff.mpr c13
          subst c13
          have H1 : (some false) = some r := by rw [if_neg (show ¬ (false = true) by decide)] at H; exact H
          clear H
          have H := H1
          clear H1
          exact absurd ((Option.some.inj H).trans HR_.out) (by decide)

/-! ### stickfullaw06_StyleMerges: function 5 -/
def stickfullaw06_StyleMerges.j0 : Nat → Bool → Int → Int → Int → Int → Int → Int → Int → Int → Int → Int → Int → Int → Int → Int → Int → Int → Int → Int → Int → Int → Int → Int → Int → Int → Int → Int → Int → Int → Int → Int → Int → Int → Int → Int → Int → Int → Int → Int → Int → Int → Int → Int → Int → Int → Int → Int → Int → Int → Int → Int → Int → Int → Int → Int → Int → Int → Int → Int → Int → Option (Bool)
  | 0, _, _, _, _, _, _, _, _, _, _, _, _, _, _, _, _, _, _, _, _, _, _, _, _, _, _, _, _, _, _, _, _, _, _, _, _, _, _, _, _, _, _, _, _, _, _, _, _, _, _, _, _, _, _, _, _, _, _, _, _ => none
  | k + 1, x49, x429000, x429001, x429002, x429003, x429004, x429005, x429006, x429007, x429008, x430000, x430001, x430002, x430003, x430004, x430005, x430006, x430007, x430008, x430009, x430010, x430011, x430012, x430013, x430014, x430015, x430016, x430017, x430018, x430019, x430020, x430021, x430022, x430023, x430024, x430025, x430026, x430027, x430028, x430029, x442000, x442001, x442002, x442003, x442004, x442005, x442006, x442007, x442008, x442009, x454000, x454001, x454002, x454003, x454004, x454005, x454006, x454007, x454008, x454009 => if x49 = true then ((stickfullaw06_head.f k).bind fun t455 => (some t455)) else ((style_Merge.f x442000 x442001 x442002 x442003 x442004 x442005 x442006 x442007 x442008 x442009 x430020 x430021 x430022 x430023 x430024 x430025 x430026 x430027 x430028 x430029).bind fun bt456 => ((style_Merge.f x430000 x430001 x430002 x430003 x430004 x430005 x430006 x430007 x430008 x430009 x454000 x454001 x454002 x454003 x454004 x454005 x454006 x454007 x454008 x454009).bind fun bt468 => ((style_Resolve.f x429000 x429001 x429002 x429003 x429004 x429005 x429006 x429007 x429008 x430000 x430001 x430002 x430003 x430004 x430005 x430006 x430007 x430008 x430009).bind fun bt480 => ((style_Resolve.f bt480.1 bt480.2.1 bt480.2.2.1 bt480.2.2.2.1 bt480.2.2.2.2.1 bt480.2.2.2.2.2.1 bt480.2.2.2.2.2.2.1 bt480.2.2.2.2.2.2.2.1 bt480.2.2.2.2.2.2.2.2.1 x430010 x430011 x430012 x430013 x430014 x430015 x430016 x430017 x430018 x430019).bind fun bt491 => ((style_Resolve.f x429000 x429001 x429002 x429003 x429004 x429005 x429006 x429007 x429008 x442000 x442001 x442002 x442003 x442004 x442005 x442006 x442007 x442008 x442009).bind fun bt502 => ((style_Merge.f x430000 x430001 x430002 x430003 x430004 x430005 x430006 x430007 x430008 x430009 0 0 0 0 0 0 0 0 0 0).bind fun bt513 => ((style_Resolve.f x429000 x429001 x429002 x429003 x429004 x429005 x429006 x429007 x429008 0 0 0 0 0 0 0 0 0 0).bind fun bt525 => (if (bt456.1 == bt468.1 && ((bt456.2.1 == bt468.2.1 && (bt456.2.2.1 == bt468.2.2.1 && (bt456.2.2.2.1 == bt468.2.2.2.1 && (bt456.2.2.2.2.1 == bt468.2.2.2.2.1 && (bt456.2.2.2.2.2.1 == bt468.2.2.2.2.2.1 && (bt456.2.2.2.2.2.2.1 == bt468.2.2.2.2.2.2.1 && (bt456.2.2.2.2.2.2.2.1 == bt468.2.2.2.2.2.2.2.1 && (bt456.2.2.2.2.2.2.2.2.1 == bt468.2.2.2.2.2.2.2.2.1 && (bt456.2.2.2.2.2.2.2.2.2.1 == bt468.2.2.2.2.2.2.2.2.2.1))))))))))) = true then (if bt456.2.2.2.2.2.2.2.2.2.2 = 0 then (if bt468.2.2.2.2.2.2.2.2.2.2 = 0 then (if bt480.2.2.2.2.2.2.2.2.2 = 0 then (if bt491.2.2.2.2.2.2.2.2.2 = 0 then (if bt502.2.2.2.2.2.2.2.2.2 = 0 then (if (bt491.1 == bt502.1 && (bt491.2.1 == bt502.2.1 && (bt491.2.2.1 == bt502.2.2.1 && (bt491.2.2.2.1 == bt502.2.2.2.1 && (bt491.2.2.2.2.1 == bt502.2.2.2.2.1 && (bt491.2.2.2.2.2.1 == bt502.2.2.2.2.2.1 && (bt491.2.2.2.2.2.2.1 == bt502.2.2.2.2.2.2.1 && (bt491.2.2.2.2.2.2.2.1 == bt502.2.2.2.2.2.2.2.1 && (bt491.2.2.2.2.2.2.2.2.1 == bt502.2.2.2.2.2.2.2.2.1))))))))) = true then (if (bt513.1 == x430000 && ((bt513.2.1 == x430001 && (bt513.2.2.1 == x430002 && (bt513.2.2.2.1 == x430003 && (bt513.2.2.2.2.1 == x430004 && (bt513.2.2.2.2.2.1 == x430005 && (bt513.2.2.2.2.2.2.1 == x430006 && (bt513.2.2.2.2.2.2.2.1 == x430007 && (bt513.2.2.2.2.2.2.2.2.1 == x430008 && (bt513.2.2.2.2.2.2.2.2.2.1 == x430009))))))))))) = true then (if bt513.2.2.2.2.2.2.2.2.2.2 = 0 then (if (bt525.1 == x429000 && (bt525.2.1 == x429001 && (bt525.2.2.1 == x429002 && (bt525.2.2.2.1 == x429003 && (bt525.2.2.2.2.1 == x429004 && (bt525.2.2.2.2.2.1 == x429005 && (bt525.2.2.2.2.2.2.1 == x429006 && (bt525.2.2.2.2.2.2.2.1 == x429007 && (bt525.2.2.2.2.2.2.2.2.1 == x429008))))))))) = true then (if bt525.2.2.2.2.2.2.2.2.2 = 0 then ((style_Check.f bt491.1 bt491.2.1 bt491.2.2.1 bt491.2.2.2.1 bt491.2.2.2.2.1 bt491.2.2.2.2.2.1 bt491.2.2.2.2.2.2.1 bt491.2.2.2.2.2.2.2.1 bt491.2.2.2.2.2.2.2.2.1).bind fun t536 => (if t536 = 0 then ((stickfullaw06_head.f k).bind fun t537 => (some t537)) else (some false))) else (some false)) else (some false)) else (some false)) else (some false)) else (some false)) else (some false)) else (some false)) else (some false)) else (some false)) else (some false)) else (some false)))))))))
def stickfullaw06_StyleMerges.f (k : Nat) (a0_0 a0_1 a0_2 a0_3 a0_4 a0_5 a0_6 a0_7 a0_8 a1_0 a1_1 a1_2 a1_3 a1_4 a1_5 a1_6 a1_7 a1_8 a1_9 a1_10 a1_11 a1_12 a1_13 a1_14 a1_15 a1_16 a1_17 a1_18 a1_19 a1_20 a1_21 a1_22 a1_23 a1_24 a1_25 a1_26 a1_27 a1_28 a1_29 : Int) : Option (Bool) := (style_Merge.f a1_0 a1_1 a1_2 a1_3 a1_4 a1_5 a1_6 a1_7 a1_8 a1_9 a1_10 a1_11 a1_12 a1_13 a1_14 a1_15 a1_16 a1_17 a1_18 a1_19).bind fun bt430 => ((style_Merge.f a1_10 a1_11 a1_12 a1_13 a1_14 a1_15 a1_16 a1_17 a1_18 a1_19 a1_20 a1_21 a1_22 a1_23 a1_24 a1_25 a1_26 a1_27 a1_28 a1_29).bind fun bt442 => (if bt430.2.2.2.2.2.2.2.2.2.2 = 0 then (if bt442.2.2.2.2.2.2.2.2.2.2 = 0 then ((style_Check.f a0_0 a0_1 a0_2 a0_3 a0_4 a0_5 a0_6 a0_7 a0_8).bind fun t454 => (stickfullaw06_StyleMerges.j0 k (t454 != 0) a0_0 a0_1 a0_2 a0_3 a0_4 a0_5 a0_6 a0_7 a0_8 a1_0 a1_1 a1_2 a1_3 a1_4 a1_5 a1_6 a1_7 a1_8 a1_9 a1_10 a1_11 a1_12 a1_13 a1_14 a1_15 a1_16 a1_17 a1_18 a1_19 a1_20 a1_21 a1_22 a1_23 a1_24 a1_25 a1_26 a1_27 a1_28 a1_29 bt430.1 bt430.2.1 bt430.2.2.1 bt430.2.2.2.1 bt430.2.2.2.2.1 bt430.2.2.2.2.2.1 bt430.2.2.2.2.2.2.1 bt430.2.2.2.2.2.2.2.1 bt430.2.2.2.2.2.2.2.2.1 bt430.2.2.2.2.2.2.2.2.2.1 bt442.1 bt442.2.1 bt442.2.2.1 bt442.2.2.2.1 bt442.2.2.2.2.1 bt442.2.2.2.2.2.1 bt442.2.2.2.2.2.2.1 bt442.2.2.2.2.2.2.2.1 bt442.2.2.2.2.2.2.2.2.1 bt442.2.2.2.2.2.2.2.2.2.1)) else (stickfullaw06_StyleMerges.j0 k true a0_0 a0_1 a0_2 a0_3 a0_4 a0_5 a0_6 a0_7 a0_8 a1_0 a1_1 a1_2 a1_3 a1_4 a1_5 a1_6 a1_7 a1_8 a1_9 a1_10 a1_11 a1_12 a1_13 a1_14 a1_15 a1_16 a1_17 a1_18 a1_19 a1_20 a1_21 a1_22 a1_23 a1_24 a1_25 a1_26 a1_27 a1_28 a1_29 bt430.1 bt430.2.1 bt430.2.2.1 bt430.2.2.2.1 bt430.2.2.2.2.1 bt430.2.2.2.2.2.1 bt430.2.2.2.2.2.2.1 bt430.2.2.2.2.2.2.2.1 bt430.2.2.2.2.2.2.2.2.1 bt430.2.2.2.2.2.2.2.2.2.1 bt442.1 bt442.2.1 bt442.2.2.1 bt442.2.2.2.1 bt442.2.2.2.2.1 bt442.2.2.2.2.2.1 bt442.2.2.2.2.2.2.1 bt442.2.2.2.2.2.2.2.1 bt442.2.2.2.2.2.2.2.2.1 bt442.2.2.2.2.2.2.2.2.2.1)) else (stickfullaw06_StyleMerges.j0 k true a0_0 a0_1 a0_2 a0_3 a0_4 a0_5 a0_6 a0_7 a0_8 a1_0 a1_1 a1_2 a1_3 a1_4 a1_5 a1_6 a1_7 a1_8 a1_9 a1_10 a1_11 a1_12 a1_13 a1_14 a1_15 a1_16 a1_17 a1_18 a1_19 a1_20 a1_21 a1_22 a1_23 a1_24 a1_25 a1_26 a1_27 a1_28 a1_29 bt430.1 bt430.2.1 bt430.2.2.1 bt430.2.2.2.1 bt430.2.2.2.2.1 bt430.2.2.2.2.2.1 bt430.2.2.2.2.2.2.1 bt430.2.2.2.2.2.2.2.1 bt430.2.2.2.2.2.2.2.2.1 bt430.2.2.2.2.2.2.2.2.2.1 bt442.1 bt442.2.1 bt442.2.2.1 bt442.2.2.2.1 bt442.2.2.2.2.1 bt442.2.2.2.2.2.1 bt442.2.2.2.2.2.2.1 bt442.2.2.2.2.2.2.2.1 bt442.2.2.2.2.2.2.2.2.1 bt442.2.2.2.2.2.2.2.2.2.1)))
theorem stickfullaw06_StyleMerges.mono_l : ∀ k, (∀ y0 y1 y2 y3 y4 y5 y6 y7 y8 y9 y10 y11 y12 y13 y14 y15 y16 y17 y18 y19 y20 y21 y22 y23 y24 y25 y26 y27 y28 y29 y30 y31 y32 y33 y34 y35 y36 y37 y38 y39 y40 y41 y42 y43 y44 y45 y46 y47 y48 y49 y50 y51 y52 y53 y54 y55 y56 y57 y58 y59, LeO (stickfullaw06_StyleMerges.j0 k y0 y1 y2 y3 y4 y5 y6 y7 y8 y9 y10 y11 y12 y13 y14 y15 y16 y17 y18 y19 y20 y21 y22 y23 y24 y25 y26 y27 y28 y29 y30 y31 y32 y33 y34 y35 y36 y37 y38 y39 y40 y41 y42 y43 y44 y45 y46 y47 y48 y49 y50 y51 y52 y53 y54 y55 y56 y57 y58 y59) (stickfullaw06_StyleMerges.j0 (k + 1) y0 y1 y2 y3 y4 y5 y6 y7 y8 y9 y10 y11 y12 y13 y14 y15 y16 y17 y18 y19 y20 y21 y22 y23 y24 y25 y26 y27 y28 y29 y30 y31 y32 y33 y34 y35 y36 y37 y38 y39 y40 y41 y42 y43 y44 y45 y46 y47 y48 y49 y50 y51 y52 y53 y54 y55 y56 y57 y58 y59))
  | 0 => fun _ _ _ _ _ _ _ _ _ _ _ _ _ _ _ _ _ _ _ _ _ _ _ _ _ _ _ _ _ _ _ _ _ _ _ _ _ _ _ _ _ _ _ _ _ _ _ _ _ _ _ _ _ _ _ _ _ _ _ _ r h => by simp [stickfullaw06_StyleMerges.j0] at h
  | k + 1 => by
    have ih0 := stickfullaw06_StyleMerges.mono_l k
    · intro y0 y1 y2 y3 y4 y5 y6 y7 y8 y9 y10 y11 y12 y13 y14 y15 y16 y17 y18 y19 y20 y21 y22 y23 y24 y25 y26 y27 y28 y29 y30 y31 y32 y33 y34 y35 y36 y37 y38 y39 y40 y41 y42 y43 y44 y45 y46 y47 y48 y49 y50 y51 y52 y53 y54 y55 y56 y57 y58 y59
      unfold stickfullaw06_StyleMerges.j0
      repeat' first
      | (with_reducible exact ih0 _ _ _ _ _ _ _ _ _ _ _ _ _ _ _ _ _ _ _ _ _ _ _ _ _ _ _ _ _ _ _ _ _ _ _ _ _ _ _ _ _ _ _ _ _ _ _ _ _ _ _ _ _ _ _ _ _ _ _ _)
      | (with_reducible exact stickfullaw06_head.mono _)
      | (with_reducible exact LeO.refl _)
      | (with_reducible exact LeO.none _)
      | (with_reducible refine LeO.ite ?_ ?_)
      | (with_reducible refine LeO.bind ?_ (fun _ => ?_))
      | exact ih0 _ _ _ _ _ _ _ _ _ _ _ _ _ _ _ _ _ _ _ _ _ _ _ _ _ _ _ _ _ _ _ _ _ _ _ _ _ _ _ _ _ _ _ _ _ _ _ _ _ _ _ _ _ _ _ _ _ _ _ _
      | exact stickfullaw06_head.mono _
      | exact LeO.none _
      | refine LeO.ite ?_ ?_
      | refine LeO.bind ?_ (fun _ => ?_)
theorem stickfullaw06_StyleMerges.mono : ∀ a0 a1 a2 a3 a4 a5 a6 a7 a8 a9 a10 a11 a12 a13 a14 a15 a16 a17 a18 a19 a20 a21 a22 a23 a24 a25 a26 a27 a28 a29 a30 a31 a32 a33 a34 a35 a36 a37 a38 k, LeO (stickfullaw06_StyleMerges.f k a0 a1 a2 a3 a4 a5 a6 a7 a8 a9 a10 a11 a12 a13 a14 a15 a16 a17 a18 a19 a20 a21 a22 a23 a24 a25 a26 a27 a28 a29 a30 a31 a32 a33 a34 a35 a36 a37 a38) (stickfullaw06_StyleMerges.f (k + 1) a0 a1 a2 a3 a4 a5 a6 a7 a8 a9 a10 a11 a12 a13 a14 a15 a16 a17 a18 a19 a20 a21 a22 a23 a24 a25 a26 a27 a28 a29 a30 a31 a32 a33 a34 a35 a36 a37 a38) := by
  intro a0 a1 a2 a3 a4 a5 a6 a7 a8 a9 a10 a11 a12 a13 a14 a15 a16 a17 a18 a19 a20 a21 a22 a23 a24 a25 a26 a27 a28 a29 a30 a31 a32 a33 a34 a35 a36 a37 a38 k
  have ih0 := stickfullaw06_StyleMerges.mono_l k
  unfold stickfullaw06_StyleMerges.f
  repeat' first
      | (with_reducible exact ih0 _ _ _ _ _ _ _ _ _ _ _ _ _ _ _ _ _ _ _ _ _ _ _ _ _ _ _ _ _ _ _ _ _ _ _ _ _ _ _ _ _ _ _ _ _ _ _ _ _ _ _ _ _ _ _ _ _ _ _ _)
      | (with_reducible exact stickfullaw06_head.mono _)
      | (with_reducible exact LeO.refl _)
      | (with_reducible exact LeO.none _)
      | (with_reducible refine LeO.ite ?_ ?_)
      | (with_reducible refine LeO.bind ?_ (fun _ => ?_))
      | exact ih0 _ _ _ _ _ _ _ _ _ _ _ _ _ _ _ _ _ _ _ _ _ _ _ _ _ _ _ _ _ _ _ _ _ _ _ _ _ _ _ _ _ _ _ _ _ _ _ _ _ _ _ _ _ _ _ _ _ _ _ _
      | exact stickfullaw06_head.mono _
      | exact LeO.none _
      | refine LeO.ite ?_ ?_
      | refine LeO.bind ?_ (fun _ => ?_)
set_option maxHeartbeats 8000000 in
set_option maxRecDepth 100000 in
theorem stickfullaw06_StyleMerges.calls_t (k : Nat) (a0_0 a0_1 a0_2 a0_3 a0_4 a0_5 a0_6 a0_7 a0_8 a1_0 a1_1 a1_2 a1_3 a1_4 a1_5 a1_6 a1_7 a1_8 a1_9 a1_10 a1_11 a1_12 a1_13 a1_14 a1_15 a1_16 a1_17 a1_18 a1_19 a1_20 a1_21 a1_22 a1_23 a1_24 a1_25 a1_26 a1_27 a1_28 a1_29 : Int) (r : Bool) (w : World) (h : stickfullaw06_StyleMerges.f k a0_0 a0_1 a0_2 a0_3 a0_4 a0_5 a0_6 a0_7 a0_8 a1_0 a1_1 a1_2 a1_3 a1_4 a1_5 a1_6 a1_7 a1_8 a1_9 a1_10 a1_11 a1_12 a1_13 a1_14 a1_15 a1_16 a1_17 a1_18 a1_19 a1_20 a1_21 a1_22 a1_23 a1_24 a1_25 a1_26 a1_27 a1_28 a1_29 = some r) (hr_ : r = true) :
    Calls Try.prog 5 #[.agg #[.int .u8 a0_0, .int .u8 a0_1, .int .u8 a0_2, .int .u8 a0_3, .int .i64 a0_4, .int .i64 a0_5, .int .i64 a0_6, .int .u8 a0_7, .int .i64 a0_8], .agg #[.int .u16 a1_0, .int .u8 a1_1, .int .u8 a1_2, .int .u8 a1_3, .int .u8 a1_4, .int .i64 a1_5, .int .i64 a1_6, .int .i64 a1_7, .int .u8 a1_8, .int .i64 a1_9, .int .u16 a1_10, .int .u8 a1_11, .int .u8 a1_12, .int .u8 a1_13, .int .u8 a1_14, .int .i64 a1_15, .int .i64 a1_16, .int .i64 a1_17, .int .u8 a1_18, .int .i64 a1_19, .int .u16 a1_20, .int .u8 a1_21, .int .u8 a1_22, .int .u8 a1_23, .int .u8 a1_24, .int .i64 a1_25, .int .i64 a1_26, .int .i64 a1_27, .int .u8 a1_28, .int .i64 a1_29]] w fun e w' => e = .returned (.bool r) ∧ Below w.heap.size w w' := by
  have hu23 := Try.underlying23
  have hu53 := Try.underlying53
  have hu26 := Try.underlying26
  have HR_ := Aside0.mk hr_
  clear hr_
  have HB := Aside0.mk (Below.refl w.heap.size w)
  have H : ((style_Merge.f a1_0 a1_1 a1_2 a1_3 a1_4 a1_5 a1_6 a1_7 a1_8 a1_9 a1_10 a1_11 a1_12 a1_13 a1_14 a1_15 a1_16 a1_17 a1_18 a1_19).bind fun bt430 => ((style_Merge.f a1_10 a1_11 a1_12 a1_13 a1_14 a1_15 a1_16 a1_17 a1_18 a1_19 a1_20 a1_21 a1_22 a1_23 a1_24 a1_25 a1_26 a1_27 a1_28 a1_29).bind fun bt442 => (if bt430.2.2.2.2.2.2.2.2.2.2 = 0 then (if bt442.2.2.2.2.2.2.2.2.2.2 = 0 then ((style_Check.f a0_0 a0_1 a0_2 a0_3 a0_4 a0_5 a0_6 a0_7 a0_8).bind fun t454 => (stickfullaw06_StyleMerges.j0 k (t454 != 0) a0_0 a0_1 a0_2 a0_3 a0_4 a0_5 a0_6 a0_7 a0_8 a1_0 a1_1 a1_2 a1_3 a1_4 a1_5 a1_6 a1_7 a1_8 a1_9 a1_10 a1_11 a1_12 a1_13 a1_14 a1_15 a1_16 a1_17 a1_18 a1_19 a1_20 a1_21 a1_22 a1_23 a1_24 a1_25 a1_26 a1_27 a1_28 a1_29 bt430.1 bt430.2.1 bt430.2.2.1 bt430.2.2.2.1 bt430.2.2.2.2.1 bt430.2.2.2.2.2.1 bt430.2.2.2.2.2.2.1 bt430.2.2.2.2.2.2.2.1 bt430.2.2.2.2.2.2.2.2.1 bt430.2.2.2.2.2.2.2.2.2.1 bt442.1 bt442.2.1 bt442.2.2.1 bt442.2.2.2.1 bt442.2.2.2.2.1 bt442.2.2.2.2.2.1 bt442.2.2.2.2.2.2.1 bt442.2.2.2.2.2.2.2.1 bt442.2.2.2.2.2.2.2.2.1 bt442.2.2.2.2.2.2.2.2.2.1)) else (stickfullaw06_StyleMerges.j0 k true a0_0 a0_1 a0_2 a0_3 a0_4 a0_5 a0_6 a0_7 a0_8 a1_0 a1_1 a1_2 a1_3 a1_4 a1_5 a1_6 a1_7 a1_8 a1_9 a1_10 a1_11 a1_12 a1_13 a1_14 a1_15 a1_16 a1_17 a1_18 a1_19 a1_20 a1_21 a1_22 a1_23 a1_24 a1_25 a1_26 a1_27 a1_28 a1_29 bt430.1 bt430.2.1 bt430.2.2.1 bt430.2.2.2.1 bt430.2.2.2.2.1 bt430.2.2.2.2.2.1 bt430.2.2.2.2.2.2.1 bt430.2.2.2.2.2.2.2.1 bt430.2.2.2.2.2.2.2.2.1 bt430.2.2.2.2.2.2.2.2.2.1 bt442.1 bt442.2.1 bt442.2.2.1 bt442.2.2.2.1 bt442.2.2.2.2.1 bt442.2.2.2.2.2.1 bt442.2.2.2.2.2.2.1 bt442.2.2.2.2.2.2.2.1 bt442.2.2.2.2.2.2.2.2.1 bt442.2.2.2.2.2.2.2.2.2.1)) else (stickfullaw06_StyleMerges.j0 k true a0_0 a0_1 a0_2 a0_3 a0_4 a0_5 a0_6 a0_7 a0_8 a1_0 a1_1 a1_2 a1_3 a1_4 a1_5 a1_6 a1_7 a1_8 a1_9 a1_10 a1_11 a1_12 a1_13 a1_14 a1_15 a1_16 a1_17 a1_18 a1_19 a1_20 a1_21 a1_22 a1_23 a1_24 a1_25 a1_26 a1_27 a1_28 a1_29 bt430.1 bt430.2.1 bt430.2.2.1 bt430.2.2.2.1 bt430.2.2.2.2.1 bt430.2.2.2.2.2.1 bt430.2.2.2.2.2.2.1 bt430.2.2.2.2.2.2.2.1 bt430.2.2.2.2.2.2.2.2.1 bt430.2.2.2.2.2.2.2.2.2.1 bt442.1 bt442.2.1 bt442.2.2.1 bt442.2.2.2.1 bt442.2.2.2.2.1 bt442.2.2.2.2.2.1 bt442.2.2.2.2.2.2.1 bt442.2.2.2.2.2.2.2.1 bt442.2.2.2.2.2.2.2.2.1 bt442.2.2.2.2.2.2.2.2.2.1)))) = some r := h
  clear h
  replace H := Option.bind_eq_some_iff.mp H
  obtain ⟨⟨t430, t431, t432, t433, t434, t435, t436, t437, t438, t439, t440⟩, A30, H⟩ := H
  replace H : ((style_Merge.f a1_10 a1_11 a1_12 a1_13 a1_14 a1_15 a1_16 a1_17 a1_18 a1_19 a1_20 a1_21 a1_22 a1_23 a1_24 a1_25 a1_26 a1_27 a1_28 a1_29).bind fun bt442 => (if t440 = 0 then (if bt442.2.2.2.2.2.2.2.2.2.2 = 0 then ((style_Check.f a0_0 a0_1 a0_2 a0_3 a0_4 a0_5 a0_6 a0_7 a0_8).bind fun t454 => (stickfullaw06_StyleMerges.j0 k (t454 != 0) a0_0 a0_1 a0_2 a0_3 a0_4 a0_5 a0_6 a0_7 a0_8 a1_0 a1_1 a1_2 a1_3 a1_4 a1_5 a1_6 a1_7 a1_8 a1_9 a1_10 a1_11 a1_12 a1_13 a1_14 a1_15 a1_16 a1_17 a1_18 a1_19 a1_20 a1_21 a1_22 a1_23 a1_24 a1_25 a1_26 a1_27 a1_28 a1_29 t430 t431 t432 t433 t434 t435 t436 t437 t438 t439 bt442.1 bt442.2.1 bt442.2.2.1 bt442.2.2.2.1 bt442.2.2.2.2.1 bt442.2.2.2.2.2.1 bt442.2.2.2.2.2.2.1 bt442.2.2.2.2.2.2.2.1 bt442.2.2.2.2.2.2.2.2.1 bt442.2.2.2.2.2.2.2.2.2.1)) else (stickfullaw06_StyleMerges.j0 k true a0_0 a0_1 a0_2 a0_3 a0_4 a0_5 a0_6 a0_7 a0_8 a1_0 a1_1 a1_2 a1_3 a1_4 a1_5 a1_6 a1_7 a1_8 a1_9 a1_10 a1_11 a1_12 a1_13 a1_14 a1_15 a1_16 a1_17 a1_18 a1_19 a1_20 a1_21 a1_22 a1_23 a1_24 a1_25 a1_26 a1_27 a1_28 a1_29 t430 t431 t432 t433 t434 t435 t436 t437 t438 t439 bt442.1 bt442.2.1 bt442.2.2.1 bt442.2.2.2.1 bt442.2.2.2.2.1 bt442.2.2.2.2.2.1 bt442.2.2.2.2.2.2.1 bt442.2.2.2.2.2.2.2.1 bt442.2.2.2.2.2.2.2.2.1 bt442.2.2.2.2.2.2.2.2.2.1)) else (stickfullaw06_StyleMerges.j0 k true a0_0 a0_1 a0_2 a0_3 a0_4 a0_5 a0_6 a0_7 a0_8 a1_0 a1_1 a1_2 a1_3 a1_4 a1_5 a1_6 a1_7 a1_8 a1_9 a1_10 a1_11 a1_12 a1_13 a1_14 a1_15 a1_16 a1_17 a1_18 a1_19 a1_20 a1_21 a1_22 a1_23 a1_24 a1_25 a1_26 a1_27 a1_28 a1_29 t430 t431 t432 t433 t434 t435 t436 t437 t438 t439 bt442.1 bt442.2.1 bt442.2.2.1 bt442.2.2.2.1 bt442.2.2.2.2.1 bt442.2.2.2.2.2.1 bt442.2.2.2.2.2.2.1 bt442.2.2.2.2.2.2.2.1 bt442.2.2.2.2.2.2.2.2.1 bt442.2.2.2.2.2.2.2.2.2.1))) = some r := H
  have A3 := Aside0.mk A30
  clear A30
  replace H := Option.bind_eq_some_iff.mp H
  obtain ⟨⟨t442, t443, t444, t445, t446, t447, t448, t449, t450, t451, t452⟩, A40, H⟩ := H
  replace H : (if t440 = 0 then (if t452 = 0 then ((style_Check.f a0_0 a0_1 a0_2 a0_3 a0_4 a0_5 a0_6 a0_7 a0_8).bind fun t454 => (stickfullaw06_StyleMerges.j0 k (t454 != 0) a0_0 a0_1 a0_2 a0_3 a0_4 a0_5 a0_6 a0_7 a0_8 a1_0 a1_1 a1_2 a1_3 a1_4 a1_5 a1_6 a1_7 a1_8 a1_9 a1_10 a1_11 a1_12 a1_13 a1_14 a1_15 a1_16 a1_17 a1_18 a1_19 a1_20 a1_21 a1_22 a1_23 a1_24 a1_25 a1_26 a1_27 a1_28 a1_29 t430 t431 t432 t433 t434 t435 t436 t437 t438 t439 t442 t443 t444 t445 t446 t447 t448 t449 t450 t451)) else (stickfullaw06_StyleMerges.j0 k true a0_0 a0_1 a0_2 a0_3 a0_4 a0_5 a0_6 a0_7 a0_8 a1_0 a1_1 a1_2 a1_3 a1_4 a1_5 a1_6 a1_7 a1_8 a1_9 a1_10 a1_11 a1_12 a1_13 a1_14 a1_15 a1_16 a1_17 a1_18 a1_19 a1_20 a1_21 a1_22 a1_23 a1_24 a1_25 a1_26 a1_27 a1_28 a1_29 t430 t431 t432 t433 t434 t435 t436 t437 t438 t439 t442 t443 t444 t445 t446 t447 t448 t449 t450 t451)) else (stickfullaw06_StyleMerges.j0 k true a0_0 a0_1 a0_2 a0_3 a0_4 a0_5 a0_6 a0_7 a0_8 a1_0 a1_1 a1_2 a1_3 a1_4 a1_5 a1_6 a1_7 a1_8 a1_9 a1_10 a1_11 a1_12 a1_13 a1_14 a1_15 a1_16 a1_17 a1_18 a1_19 a1_20 a1_21 a1_22 a1_23 a1_24 a1_25 a1_26 a1_27 a1_28 a1_29 t430 t431 t432 t433 t434 t435 t436 t437 t438 t439 t442 t443 t444 t445 t446 t447 t448 t449 t450 t451)) = some r := H
  have A4 := Aside0.mk A40
  clear A40
  have HC5 := Aside0.mk H
  clear H
  go_enter Try.func5, Try.ntmps5
  go_upto_region 3 with (first | ((with_reducible refine gate_dst (N := 2) rfl ?_); refine box_event ?hg (N := 2) ?hd (cs := #[.int .u8 a0_0, .int .u8 a0_1, .int .u8 a0_2, .int .u8 a0_3, .int .i64 a0_4, .int .i64 a0_5, .int .i64 a0_6, .int .u8 a0_7, .int .i64 a0_8]) (t := 23) ?hr ?_; (case hd => rfl); (case hg => rfl); (case hr => first | (go_simp; done) | (go_simp; rfl)); intro gb428 hg w6 hbox hb; have BK428 := Aside0.mk (hbox); have GW428 := bge HB hg; have GE428 := bge HB hg; replace HB := bh HB hb; clear hb hbox hg) | ((with_reducible refine gate_dst (N := 3) rfl ?_); refine box_event ?hg (N := 3) ?hd (cs := #[.int .u16 a1_0, .int .u8 a1_1, .int .u8 a1_2, .int .u8 a1_3, .int .u8 a1_4, .int .i64 a1_5, .int .i64 a1_6, .int .i64 a1_7, .int .u8 a1_8, .int .i64 a1_9, .int .u16 a1_10, .int .u8 a1_11, .int .u8 a1_12, .int .u8 a1_13, .int .u8 a1_14, .int .i64 a1_15, .int .i64 a1_16, .int .i64 a1_17, .int .u8 a1_18, .int .i64 a1_19, .int .u16 a1_20, .int .u8 a1_21, .int .u8 a1_22, .int .u8 a1_23, .int .u8 a1_24, .int .i64 a1_25, .int .i64 a1_26, .int .i64 a1_27, .int .u8 a1_28, .int .i64 a1_29]) (t := 53) ?hr ?_; (case hd => rfl); (case hg => rfl); (case hr => first | (go_simp; done) | (go_simp; rfl)); intro gb429 hg w7 hbox hb; have BK429 := Aside0.mk (hbox); have GW429 := bge HB hg; have GE429 := bge HB hg; replace HB := bh HB hb; have NB428_429 := nbl BK428 hg; have NB429_428 := nbg BK428 hg; replace BK428 := bb BK428 hb; clear hb hbox hg; have hnb8 := NB429_428.out; have hnc8 := NB428_429.out; obtain ⟨hcz9_0, hcz9_1, hcz9_2, hcz9_3, hcz9_4, hcz9_5, hcz9_6, hcz9_7, hcz9_8, hcz9_9, hcz9_10, hcz9_11, hcz9_12, hcz9_13, hcz9_14, hcz9_15, hcz9_16, hcz9_17, hcz9_18, hcz9_19, hcz9_20, hcz9_21, hcz9_22, hcz9_23, hcz9_24, hcz9_25, hcz9_26, hcz9_27, hcz9_28, hcz9_29⟩ := cz30 BK429; obtain ⟨hfz9_0, hfz9_1, hfz9_2, hfz9_3, hfz9_4, hfz9_5, hfz9_6, hfz9_7, hfz9_8, hfz9_9, hfz9_10, hfz9_11, hfz9_12, hfz9_13, hfz9_14, hfz9_15, hfz9_16, hfz9_17, hfz9_18, hfz9_19, hfz9_20, hfz9_21, hfz9_22, hfz9_23, hfz9_24, hfz9_25, hfz9_26, hfz9_27, hfz9_28, hfz9_29⟩ := fz30 BK429) | ((with_reducible refine gate_callee (f := 14) rfl ?_); refine goesB (some 28) rfl rfl Try.func14 #[.agg #[.int .u16 a1_0, .int .u8 a1_1, .int .u8 a1_2, .int .u8 a1_3, .int .u8 a1_4, .int .i64 a1_5, .int .i64 a1_6, .int .i64 a1_7, .int .u8 a1_8, .int .i64 a1_9], .agg #[.int .u16 a1_10, .int .u8 a1_11, .int .u8 a1_12, .int .u8 a1_13, .int .u8 a1_14, .int .i64 a1_15, .int .i64 a1_16, .int .i64 a1_17, .int .u8 a1_18, .int .i64 a1_19]] rfl ?_; (with_reducible refine (style_Merge.calls a1_0 a1_1 a1_2 a1_3 a1_4 a1_5 a1_6 a1_7 a1_8 a1_9 a1_10 a1_11 a1_12 a1_13 a1_14 a1_15 a1_16 a1_17 a1_18 a1_19 t430 t431 t432 t433 t434 t435 t436 t437 t438 t439 t440 _ A3.out).mono ?_); rintro e w10 ⟨rfl, hb⟩; refine ⟨_, rfl, ?_⟩; replace BK428 := bb BK428 hb; replace BK429 := bb BK429 hb; replace HB := bh HB hb; (try clear hb); (try clear hb2); (try clear hk); (try clear hi)) | ((with_reducible refine gate_dst (N := 5) rfl ?_); refine box_event ?hg (N := 5) ?hd (cs := #[.int .u16 0, .int .u8 0, .int .u8 0, .int .u8 0, .int .u8 0, .int .i64 0, .int .i64 0, .int .i64 0, .int .u8 0, .int .i64 0]) (t := 26) ?hr ?_; (case hd => rfl); (case hg => rfl); (case hr => first | (go_simp; done) | (go_simp; rfl)); intro gb441 hg w11 hbox hb; have BK441 := Aside0.mk (hbox); have GW441 := bge HB hg; have GE441 := bge HB hg; replace HB := bh HB hb; have NB428_441 := nbl BK428 hg; have NB441_428 := nbg BK428 hg; replace BK428 := bb BK428 hb; have NB429_441 := nbl BK429 hg; have NB441_429 := nbg BK429 hg; replace BK429 := bb BK429 hb; clear hb hbox hg; have hnb12 := NB441_428.out; have hnc12 := NB428_441.out; have hnb13 := NB441_429.out; have hnc13 := NB429_441.out; obtain ⟨hcz14_0, hcz14_1, hcz14_2, hcz14_3, hcz14_4, hcz14_5, hcz14_6, hcz14_7, hcz14_8, hcz14_9⟩ := cz10 BK441; obtain ⟨hfz14_0, hfz14_1, hfz14_2, hfz14_3, hfz14_4, hfz14_5, hfz14_6, hfz14_7, hfz14_8, hfz14_9⟩ := fz10 BK441; obtain ⟨hcz15_0, hcz15_1, hcz15_2, hcz15_3, hcz15_4, hcz15_5, hcz15_6, hcz15_7, hcz15_8, hcz15_9, hcz15_10, hcz15_11, hcz15_12, hcz15_13, hcz15_14, hcz15_15, hcz15_16, hcz15_17, hcz15_18, hcz15_19, hcz15_20, hcz15_21, hcz15_22, hcz15_23, hcz15_24, hcz15_25, hcz15_26, hcz15_27, hcz15_28, hcz15_29⟩ := cz30 BK429; obtain ⟨hfz15_0, hfz15_1, hfz15_2, hfz15_3, hfz15_4, hfz15_5, hfz15_6, hfz15_7, hfz15_8, hfz15_9, hfz15_10, hfz15_11, hfz15_12, hfz15_13, hfz15_14, hfz15_15, hfz15_16, hfz15_17, hfz15_18, hfz15_19, hfz15_20, hfz15_21, hfz15_22, hfz15_23, hfz15_24, hfz15_25, hfz15_26, hfz15_27, hfz15_28, hfz15_29⟩ := fz30 BK429) | ((with_reducible refine gate_callee (f := 14) rfl ?_); refine goesB (some 36) rfl rfl Try.func14 #[.agg #[.int .u16 a1_10, .int .u8 a1_11, .int .u8 a1_12, .int .u8 a1_13, .int .u8 a1_14, .int .i64 a1_15, .int .i64 a1_16, .int .i64 a1_17, .int .u8 a1_18, .int .i64 a1_19], .agg #[.int .u16 a1_20, .int .u8 a1_21, .int .u8 a1_22, .int .u8 a1_23, .int .u8 a1_24, .int .i64 a1_25, .int .i64 a1_26, .int .i64 a1_27, .int .u8 a1_28, .int .i64 a1_29]] rfl ?_; (with_reducible refine (style_Merge.calls a1_10 a1_11 a1_12 a1_13 a1_14 a1_15 a1_16 a1_17 a1_18 a1_19 a1_20 a1_21 a1_22 a1_23 a1_24 a1_25 a1_26 a1_27 a1_28 a1_29 t442 t443 t444 t445 t446 t447 t448 t449 t450 t451 t452 _ A4.out).mono ?_); rintro e w16 ⟨rfl, hb⟩; refine ⟨_, rfl, ?_⟩; replace BK428 := bb BK428 hb; replace BK429 := bb BK429 hb; replace BK441 := Aside0.mk (blk_below (o := .cells #[.int .u16 t430, .int .u8 t431, .int .u8 t432, .int .u8 t433, .int .u8 t434, .int .i64 t435, .int .i64 t436, .int .i64 t437, .int .u8 t438, .int .i64 t439] 26 (0, 0)) (bp BK441) hb); replace HB := bh HB hb; (try clear hb); (try clear hb2); (try clear hk); (try clear hi)) | ((with_reducible refine gate_dst (N := 7) rfl ?_); refine box_event ?hg (N := 7) ?hd (cs := #[.int .u16 0, .int .u8 0, .int .u8 0, .int .u8 0, .int .u8 0, .int .i64 0, .int .i64 0, .int .i64 0, .int .u8 0, .int .i64 0]) (t := 26) ?hr ?_; (case hd => rfl); (case hg => rfl); (case hr => first | (go_simp; done) | (go_simp; rfl)); intro gb453 hg w17 hbox hb; have BK453 := Aside0.mk (hbox); have GW453 := bge HB hg; have GE453 := bge HB hg; replace HB := bh HB hb; have NB428_453 := nbl BK428 hg; have NB453_428 := nbg BK428 hg; replace BK428 := bb BK428 hb; have NB429_453 := nbl BK429 hg; have NB453_429 := nbg BK429 hg; replace BK429 := bb BK429 hb; have NB441_453 := nbl BK441 hg; have NB453_441 := nbg BK441 hg; replace BK441 := bb BK441 hb; clear hb hbox hg; have hnb18 := NB453_428.out; have hnc18 := NB428_453.out; have hnb19 := NB453_429.out; have hnc19 := NB429_453.out; have hnb20 := NB453_441.out; have hnc20 := NB441_453.out; obtain ⟨hcz21_0, hcz21_1, hcz21_2, hcz21_3, hcz21_4, hcz21_5, hcz21_6, hcz21_7, hcz21_8, hcz21_9⟩ := cz10 BK453; obtain ⟨hfz21_0, hfz21_1, hfz21_2, hfz21_3, hfz21_4, hfz21_5, hfz21_6, hfz21_7, hfz21_8, hfz21_9⟩ := fz10 BK453))
  (try simp only [Act.put, List.setIfInBounds_toArray, List.set_cons_zero, List.set_cons_succ])
  go_cut [49] (fun v49 wc => ∃ (kq : Nat) (x49_4 : Bool), v49 = .bool x49_4 ∧ Aside0 (stickfullaw06_StyleMerges.j0 kq x49_4 a0_0 a0_1 a0_2 a0_3 a0_4 a0_5 a0_6 a0_7 a0_8 a1_0 a1_1 a1_2 a1_3 a1_4 a1_5 a1_6 a1_7 a1_8 a1_9 a1_10 a1_11 a1_12 a1_13 a1_14 a1_15 a1_16 a1_17 a1_18 a1_19 a1_20 a1_21 a1_22 a1_23 a1_24 a1_25 a1_26 a1_27 a1_28 a1_29 t430 t431 t432 t433 t434 t435 t436 t437 t438 t439 t442 t443 t444 t445 t446 t447 t448 t449 t450 t451 = some r) ∧ Aside0 (kq ≤ k) ∧ Aside0 (wc.heap[gb428]? = some (.cells #[.int .u8 a0_0, .int .u8 a0_1, .int .u8 a0_2, .int .u8 a0_3, .int .i64 a0_4, .int .i64 a0_5, .int .i64 a0_6, .int .u8 a0_7, .int .i64 a0_8] 23 (0, 0))) ∧ Aside0 (wc.heap[gb429]? = some (.cells #[.int .u16 a1_0, .int .u8 a1_1, .int .u8 a1_2, .int .u8 a1_3, .int .u8 a1_4, .int .i64 a1_5, .int .i64 a1_6, .int .i64 a1_7, .int .u8 a1_8, .int .i64 a1_9, .int .u16 a1_10, .int .u8 a1_11, .int .u8 a1_12, .int .u8 a1_13, .int .u8 a1_14, .int .i64 a1_15, .int .i64 a1_16, .int .i64 a1_17, .int .u8 a1_18, .int .i64 a1_19, .int .u16 a1_20, .int .u8 a1_21, .int .u8 a1_22, .int .u8 a1_23, .int .u8 a1_24, .int .i64 a1_25, .int .i64 a1_26, .int .i64 a1_27, .int .u8 a1_28, .int .i64 a1_29] 53 (0, 0))) ∧ Aside0 (wc.heap[gb441]? = some (.cells #[.int .u16 t430, .int .u8 t431, .int .u8 t432, .int .u8 t433, .int .u8 t434, .int .i64 t435, .int .i64 t436, .int .i64 t437, .int .u8 t438, .int .i64 t439] 26 (0, 0))) ∧ Aside0 (wc.heap[gb453]? = some (.cells #[.int .u16 t442, .int .u8 t443, .int .u8 t444, .int .u8 t445, .int .u8 t446, .int .i64 t447, .int .i64 t448, .int .i64 t449, .int .u8 t450, .int .i64 t451] 26 (0, 0))) ∧ Aside0 (Below w.heap.size w wc))
  case first =>
    have H := HC5.out
    clear HC5
    by_cases c22 : t440 = 0
    · rw [if_pos c22] at H
      have c22b0 : (t440 == 0) = true := beq_iff_eq.mpr c22
      have c22b1 : (t440 != 0) = false := bne_eq_false_iff_eq.mpr c22
      clear c22
      (first | rw [c22b0] | (simp only [i64_w, i32_w]; rw [c22b0]) | skip)
      by_cases c23 : t452 = 0
      · rw [if_pos c23] at H
        have c23b0 : (t452 == 0) = true := beq_iff_eq.mpr c23
        have c23b1 : (t452 != 0) = false := bne_eq_false_iff_eq.mpr c23
        clear c23
        replace H := Option.bind_eq_some_iff.mp H
        obtain ⟨t454, A240, H⟩ := H
        replace H : (stickfullaw06_StyleMerges.j0 k (t454 != 0) a0_0 a0_1 a0_2 a0_3 a0_4 a0_5 a0_6 a0_7 a0_8 a1_0 a1_1 a1_2 a1_3 a1_4 a1_5 a1_6 a1_7 a1_8 a1_9 a1_10 a1_11 a1_12 a1_13 a1_14 a1_15 a1_16 a1_17 a1_18 a1_19 a1_20 a1_21 a1_22 a1_23 a1_24 a1_25 a1_26 a1_27 a1_28 a1_29 t430 t431 t432 t433 t434 t435 t436 t437 t438 t439 t442 t443 t444 t445 t446 t447 t448 t449 t450 t451) = some r := H
        have A24 := Aside0.mk A240
        clear A240
        have H' := Aside0.mk H
        clear H
        have hnb25 := NB428_429.out
        have hnc25 := NB429_428.out
        have hnb26 := NB428_441.out
        have hnc26 := NB441_428.out
        have hnb27 := NB428_453.out
        have hnc27 := NB453_428.out
        obtain ⟨hcz28_0, hcz28_1, hcz28_2, hcz28_3, hcz28_4, hcz28_5, hcz28_6, hcz28_7, hcz28_8⟩ := cz9 BK428
        obtain ⟨hfz28_0, hfz28_1, hfz28_2, hfz28_3, hfz28_4, hfz28_5, hfz28_6, hfz28_7, hfz28_8⟩ := fz9 BK428
        go_wp2_with (first | (go_at_call 16; (with_reducible refine (style_Check.calls a0_0 a0_1 a0_2 a0_3 a0_4 a0_5 a0_6 a0_7 a0_8 t454 _ A24.out).mono ?_); rintro e w29 ⟨rfl, hb⟩; replace BK428 := bb BK428 hb; replace BK429 := bb BK429 hb; replace BK441 := bb BK441 hb; replace BK453 := Aside0.mk (blk_below (o := .cells #[.int .u16 t442, .int .u8 t443, .int .u8 t444, .int .u8 t445, .int .u8 t446, .int .i64 t447, .int .i64 t448, .int .i64 t449, .int .u8 t450, .int .i64 t451] 26 (0, 0)) (bp BK453) hb); replace HB := bh HB hb; (try clear hb); (try clear hb2); (try clear hk); (try clear hi)))
        go_meet
        case rel => exact ⟨_, ((t454 != 0)), (by first | rfl | (simp; done) | (simp [*]; done)), H', ⟨by first | omega | exact Nat.le_refl _⟩, ⟨by (with_reducible repeat (first | refine blk_drewN ?_ _ | refine blk_drew ?_ | refine blk_alloc ?_ _)); exact BK428.out⟩, ⟨by (with_reducible repeat (first | refine blk_drewN ?_ _ | refine blk_drew ?_ | refine blk_alloc ?_ _)); exact BK429.out⟩, ⟨by (with_reducible repeat (first | refine blk_drewN ?_ _ | refine blk_drew ?_ | refine blk_alloc ?_ _)); exact BK441.out⟩, ⟨by (with_reducible repeat (first | refine blk_drewN ?_ _ | refine blk_drew ?_ | refine blk_alloc ?_ _)); exact BK453.out⟩, ⟨by repeat (first | (with_reducible first | exact HB.out | apply below_alloc | apply pw_below_drewN | apply below_drew1 | refine below_set ?_ GE428.out | refine below_set ?_ GE429.out | refine below_set ?_ GE441.out | refine below_set ?_ GE453.out) | exact HB.out)⟩⟩
      · rw [if_neg c23] at H
        have c23b0 : (t452 == 0) = false := beq_eq_false_iff_ne.mpr c23
        have c23b1 : (t452 != 0) = true := bne_iff_ne.mpr c23
        have H' := Aside0.mk H
        clear H
        go_wp2
        go_meet
        case rel => exact ⟨_, (true), (by first | rfl | (simp; done) | (simp [*]; done)), H', ⟨by first | omega | exact Nat.le_refl _⟩, ⟨by (with_reducible repeat (first | refine blk_drewN ?_ _ | refine blk_drew ?_ | refine blk_alloc ?_ _)); refine blk_far ?_ NB428_453.out _; (with_reducible repeat (first | refine blk_drewN ?_ _ | refine blk_drew ?_ | refine blk_alloc ?_ _)); refine blk_far ?_ NB428_453.out _; (with_reducible repeat (first | refine blk_drewN ?_ _ | refine blk_drew ?_ | refine blk_alloc ?_ _)); refine blk_far ?_ NB428_453.out _; (with_reducible repeat (first | refine blk_drewN ?_ _ | refine blk_drew ?_ | refine blk_alloc ?_ _)); refine blk_far ?_ NB428_453.out _; (with_reducible repeat (first | refine blk_drewN ?_ _ | refine blk_drew ?_ | refine blk_alloc ?_ _)); refine blk_far ?_ NB428_453.out _; (with_reducible repeat (first | refine blk_drewN ?_ _ | refine blk_drew ?_ | refine blk_alloc ?_ _)); refine blk_far ?_ NB428_453.out _; (with_reducible repeat (first | refine blk_drewN ?_ _ | refine blk_drew ?_ | refine blk_alloc ?_ _)); refine blk_far ?_ NB428_453.out _; (with_reducible repeat (first | refine blk_drewN ?_ _ | refine blk_drew ?_ | refine blk_alloc ?_ _)); refine blk_far ?_ NB428_453.out _; (with_reducible repeat (first | refine blk_drewN ?_ _ | refine blk_drew ?_ | refine blk_alloc ?_ _)); refine blk_far ?_ NB428_453.out _; (with_reducible repeat (first | refine blk_drewN ?_ _ | refine blk_drew ?_ | refine blk_alloc ?_ _)); refine blk_far ?_ NB428_453.out _; (with_reducible repeat (first | refine blk_drewN ?_ _ | refine blk_drew ?_ | refine blk_alloc ?_ _)); exact BK428.out⟩, ⟨by (with_reducible repeat (first | refine blk_drewN ?_ _ | refine blk_drew ?_ | refine blk_alloc ?_ _)); refine blk_far ?_ NB429_453.out _; (with_reducible repeat (first | refine blk_drewN ?_ _ | refine blk_drew ?_ | refine blk_alloc ?_ _)); refine blk_far ?_ NB429_453.out _; (with_reducible repeat (first | refine blk_drewN ?_ _ | refine blk_drew ?_ | refine blk_alloc ?_ _)); refine blk_far ?_ NB429_453.out _; (with_reducible repeat (first | refine blk_drewN ?_ _ | refine blk_drew ?_ | refine blk_alloc ?_ _)); refine blk_far ?_ NB429_453.out _; (with_reducible repeat (first | refine blk_drewN ?_ _ | refine blk_drew ?_ | refine blk_alloc ?_ _)); refine blk_far ?_ NB429_453.out _; (with_reducible repeat (first | refine blk_drewN ?_ _ | refine blk_drew ?_ | refine blk_alloc ?_ _)); refine blk_far ?_ NB429_453.out _; (with_reducible repeat (first | refine blk_drewN ?_ _ | refine blk_drew ?_ | refine blk_alloc ?_ _)); refine blk_far ?_ NB429_453.out _; (with_reducible repeat (first | refine blk_drewN ?_ _ | refine blk_drew ?_ | refine blk_alloc ?_ _)); refine blk_far ?_ NB429_453.out _; (with_reducible repeat (first | refine blk_drewN ?_ _ | refine blk_drew ?_ | refine blk_alloc ?_ _)); refine blk_far ?_ NB429_453.out _; (with_reducible repeat (first | refine blk_drewN ?_ _ | refine blk_drew ?_ | refine blk_alloc ?_ _)); refine blk_far ?_ NB429_453.out _; (with_reducible repeat (first | refine blk_drewN ?_ _ | refine blk_drew ?_ | refine blk_alloc ?_ _)); exact BK429.out⟩, ⟨by (with_reducible repeat (first | refine blk_drewN ?_ _ | refine blk_drew ?_ | refine blk_alloc ?_ _)); refine blk_far ?_ NB441_453.out _; (with_reducible repeat (first | refine blk_drewN ?_ _ | refine blk_drew ?_ | refine blk_alloc ?_ _)); refine blk_far ?_ NB441_453.out _; (with_reducible repeat (first | refine blk_drewN ?_ _ | refine blk_drew ?_ | refine blk_alloc ?_ _)); refine blk_far ?_ NB441_453.out _; (with_reducible repeat (first | refine blk_drewN ?_ _ | refine blk_drew ?_ | refine blk_alloc ?_ _)); refine blk_far ?_ NB441_453.out _; (with_reducible repeat (first | refine blk_drewN ?_ _ | refine blk_drew ?_ | refine blk_alloc ?_ _)); refine blk_far ?_ NB441_453.out _; (with_reducible repeat (first | refine blk_drewN ?_ _ | refine blk_drew ?_ | refine blk_alloc ?_ _)); refine blk_far ?_ NB441_453.out _; (with_reducible repeat (first | refine blk_drewN ?_ _ | refine blk_drew ?_ | refine blk_alloc ?_ _)); refine blk_far ?_ NB441_453.out _; (with_reducible repeat (first | refine blk_drewN ?_ _ | refine blk_drew ?_ | refine blk_alloc ?_ _)); refine blk_far ?_ NB441_453.out _; (with_reducible repeat (first | refine blk_drewN ?_ _ | refine blk_drew ?_ | refine blk_alloc ?_ _)); refine blk_far ?_ NB441_453.out _; (with_reducible repeat (first | refine blk_drewN ?_ _ | refine blk_drew ?_ | refine blk_alloc ?_ _)); refine blk_far ?_ NB441_453.out _; (with_reducible repeat (first | refine blk_drewN ?_ _ | refine blk_drew ?_ | refine blk_alloc ?_ _)); exact BK441.out⟩, ⟨by (with_reducible repeat (first | refine blk_drewN ?_ _ | refine blk_drew ?_ | refine blk_alloc ?_ _)); refine blk_put (cs := #[.int .u16 t442, .int .u8 t443, .int .u8 t444, .int .u8 t445, .int .u8 t446, .int .i64 t447, .int .i64 t448, .int .i64 t449, .int .u8 t450, .int .i64 0]) ?_ 9 _ rfl; (with_reducible repeat (first | refine blk_drewN ?_ _ | refine blk_drew ?_ | refine blk_alloc ?_ _)); refine blk_put (cs := #[.int .u16 t442, .int .u8 t443, .int .u8 t444, .int .u8 t445, .int .u8 t446, .int .i64 t447, .int .i64 t448, .int .i64 t449, .int .u8 0, .int .i64 0]) ?_ 8 _ rfl; (with_reducible repeat (first | refine blk_drewN ?_ _ | refine blk_drew ?_ | refine blk_alloc ?_ _)); refine blk_put (cs := #[.int .u16 t442, .int .u8 t443, .int .u8 t444, .int .u8 t445, .int .u8 t446, .int .i64 t447, .int .i64 t448, .int .i64 0, .int .u8 0, .int .i64 0]) ?_ 7 _ rfl; (with_reducible repeat (first | refine blk_drewN ?_ _ | refine blk_drew ?_ | refine blk_alloc ?_ _)); refine blk_put (cs := #[.int .u16 t442, .int .u8 t443, .int .u8 t444, .int .u8 t445, .int .u8 t446, .int .i64 t447, .int .i64 0, .int .i64 0, .int .u8 0, .int .i64 0]) ?_ 6 _ rfl; (with_reducible repeat (first | refine blk_drewN ?_ _ | refine blk_drew ?_ | refine blk_alloc ?_ _)); refine blk_put (cs := #[.int .u16 t442, .int .u8 t443, .int .u8 t444, .int .u8 t445, .int .u8 t446, .int .i64 0, .int .i64 0, .int .i64 0, .int .u8 0, .int .i64 0]) ?_ 5 _ rfl; (with_reducible repeat (first | refine blk_drewN ?_ _ | refine blk_drew ?_ | refine blk_alloc ?_ _)); refine blk_put (cs := #[.int .u16 t442, .int .u8 t443, .int .u8 t444, .int .u8 t445, .int .u8 0, .int .i64 0, .int .i64 0, .int .i64 0, .int .u8 0, .int .i64 0]) ?_ 4 _ rfl; (with_reducible repeat (first | refine blk_drewN ?_ _ | refine blk_drew ?_ | refine blk_alloc ?_ _)); refine blk_put (cs := #[.int .u16 t442, .int .u8 t443, .int .u8 t444, .int .u8 0, .int .u8 0, .int .i64 0, .int .i64 0, .int .i64 0, .int .u8 0, .int .i64 0]) ?_ 3 _ rfl; (with_reducible repeat (first | refine blk_drewN ?_ _ | refine blk_drew ?_ | refine blk_alloc ?_ _)); refine blk_put (cs := #[.int .u16 t442, .int .u8 t443, .int .u8 0, .int .u8 0, .int .u8 0, .int .i64 0, .int .i64 0, .int .i64 0, .int .u8 0, .int .i64 0]) ?_ 2 _ rfl; (with_reducible repeat (first | refine blk_drewN ?_ _ | refine blk_drew ?_ | refine blk_alloc ?_ _)); refine blk_put (cs := #[.int .u16 t442, .int .u8 0, .int .u8 0, .int .u8 0, .int .u8 0, .int .i64 0, .int .i64 0, .int .i64 0, .int .u8 0, .int .i64 0]) ?_ 1 _ rfl; (with_reducible repeat (first | refine blk_drewN ?_ _ | refine blk_drew ?_ | refine blk_alloc ?_ _)); refine blk_put (cs := #[.int .u16 0, .int .u8 0, .int .u8 0, .int .u8 0, .int .u8 0, .int .i64 0, .int .i64 0, .int .i64 0, .int .u8 0, .int .i64 0]) ?_ 0 _ rfl; (with_reducible repeat (first | refine blk_drewN ?_ _ | refine blk_drew ?_ | refine blk_alloc ?_ _)); exact BK453.out⟩, ⟨by repeat (first | (with_reducible first | exact HB.out | apply below_alloc | apply pw_below_drewN | apply below_drew1 | refine below_set ?_ GE428.out | refine below_set ?_ GE429.out | refine below_set ?_ GE441.out | refine below_set ?_ GE453.out) | exact HB.out)⟩⟩
    · rw [if_neg c22] at H
      have c22b0 : (t440 == 0) = false := beq_eq_false_iff_ne.mpr c22
      have c22b1 : (t440 != 0) = true := bne_iff_ne.mpr c22
      (first | rw [c22b0] | (simp only [i64_w, i32_w]; rw [c22b0]) | skip)
      have H' := Aside0.mk H
      clear H
      go_wp2
      go_meet
      case rel => exact ⟨_, (true), (by first | rfl | (simp; done) | (simp [*]; done)), H', ⟨by first | omega | exact Nat.le_refl _⟩, ⟨by (with_reducible repeat (first | refine blk_drewN ?_ _ | refine blk_drew ?_ | refine blk_alloc ?_ _)); refine blk_far ?_ NB428_453.out _; (with_reducible repeat (first | refine blk_drewN ?_ _ | refine blk_drew ?_ | refine blk_alloc ?_ _)); refine blk_far ?_ NB428_453.out _; (with_reducible repeat (first | refine blk_drewN ?_ _ | refine blk_drew ?_ | refine blk_alloc ?_ _)); refine blk_far ?_ NB428_453.out _; (with_reducible repeat (first | refine blk_drewN ?_ _ | refine blk_drew ?_ | refine blk_alloc ?_ _)); refine blk_far ?_ NB428_453.out _; (with_reducible repeat (first | refine blk_drewN ?_ _ | refine blk_drew ?_ | refine blk_alloc ?_ _)); refine blk_far ?_ NB428_453.out _; (with_reducible repeat (first | refine blk_drewN ?_ _ | refine blk_drew ?_ | refine blk_alloc ?_ _)); refine blk_far ?_ NB428_453.out _; (with_reducible repeat (first | refine blk_drewN ?_ _ | refine blk_drew ?_ | refine blk_alloc ?_ _)); refine blk_far ?_ NB428_453.out _; (with_reducible repeat (first | refine blk_drewN ?_ _ | refine blk_drew ?_ | refine blk_alloc ?_ _)); refine blk_far ?_ NB428_453.out _; (with_reducible repeat (first | refine blk_drewN ?_ _ | refine blk_drew ?_ | refine blk_alloc ?_ _)); refine blk_far ?_ NB428_453.out _; (with_reducible repeat (first | refine blk_drewN ?_ _ | refine blk_drew ?_ | refine blk_alloc ?_ _)); refine blk_far ?_ NB428_453.out _; (with_reducible repeat (first | refine blk_drewN ?_ _ | refine blk_drew ?_ | refine blk_alloc ?_ _)); exact BK428.out⟩, ⟨by (with_reducible repeat (first | refine blk_drewN ?_ _ | refine blk_drew ?_ | refine blk_alloc ?_ _)); refine blk_far ?_ NB429_453.out _; (with_reducible repeat (first | refine blk_drewN ?_ _ | refine blk_drew ?_ | refine blk_alloc ?_ _)); refine blk_far ?_ NB429_453.out _; (with_reducible repeat (first | refine blk_drewN ?_ _ | refine blk_drew ?_ | refine blk_alloc ?_ _)); refine blk_far ?_ NB429_453.out _; (with_reducible repeat (first | refine blk_drewN ?_ _ | refine blk_drew ?_ | refine blk_alloc ?_ _)); refine blk_far ?_ NB429_453.out _; (with_reducible repeat (first | refine blk_drewN ?_ _ | refine blk_drew ?_ | refine blk_alloc ?_ _)); refine blk_far ?_ NB429_453.out _; (with_reducible repeat (first | refine blk_drewN ?_ _ | refine blk_drew ?_ | refine blk_alloc ?_ _)); refine blk_far ?_ NB429_453.out _; (with_reducible repeat (first | refine blk_drewN ?_ _ | refine blk_drew ?_ | refine blk_alloc ?_ _)); refine blk_far ?_ NB429_453.out _; (with_reducible repeat (first | refine blk_drewN ?_ _ | refine blk_drew ?_ | refine blk_alloc ?_ _)); refine blk_far ?_ NB429_453.out _; (with_reducible repeat (first | refine blk_drewN ?_ _ | refine blk_drew ?_ | refine blk_alloc ?_ _)); refine blk_far ?_ NB429_453.out _; (with_reducible repeat (first | refine blk_drewN ?_ _ | refine blk_drew ?_ | refine blk_alloc ?_ _)); refine blk_far ?_ NB429_453.out _; (with_reducible repeat (first | refine blk_drewN ?_ _ | refine blk_drew ?_ | refine blk_alloc ?_ _)); exact BK429.out⟩, ⟨by (with_reducible repeat (first | refine blk_drewN ?_ _ | refine blk_drew ?_ | refine blk_alloc ?_ _)); refine blk_far ?_ NB441_453.out _; (with_reducible repeat (first | refine blk_drewN ?_ _ | refine blk_drew ?_ | refine blk_alloc ?_ _)); refine blk_far ?_ NB441_453.out _; (with_reducible repeat (first | refine blk_drewN ?_ _ | refine blk_drew ?_ | refine blk_alloc ?_ _)); refine blk_far ?_ NB441_453.out _; (with_reducible repeat (first | refine blk_drewN ?_ _ | refine blk_drew ?_ | refine blk_alloc ?_ _)); refine blk_far ?_ NB441_453.out _; (with_reducible repeat (first | refine blk_drewN ?_ _ | refine blk_drew ?_ | refine blk_alloc ?_ _)); refine blk_far ?_ NB441_453.out _; (with_reducible repeat (first | refine blk_drewN ?_ _ | refine blk_drew ?_ | refine blk_alloc ?_ _)); refine blk_far ?_ NB441_453.out _; (with_reducible repeat (first | refine blk_drewN ?_ _ | refine blk_drew ?_ | refine blk_alloc ?_ _)); refine blk_far ?_ NB441_453.out _; (with_reducible repeat (first | refine blk_drewN ?_ _ | refine blk_drew ?_ | refine blk_alloc ?_ _)); refine blk_far ?_ NB441_453.out _; (with_reducible repeat (first | refine blk_drewN ?_ _ | refine blk_drew ?_ | refine blk_alloc ?_ _)); refine blk_far ?_ NB441_453.out _; (with_reducible repeat (first | refine blk_drewN ?_ _ | refine blk_drew ?_ | refine blk_alloc ?_ _)); refine blk_far ?_ NB441_453.out _; (with_reducible repeat (first | refine blk_drewN ?_ _ | refine blk_drew ?_ | refine blk_alloc ?_ _)); exact BK441.out⟩, ⟨by (with_reducible repeat (first | refine blk_drewN ?_ _ | refine blk_drew ?_ | refine blk_alloc ?_ _)); refine blk_put (cs := #[.int .u16 t442, .int .u8 t443, .int .u8 t444, .int .u8 t445, .int .u8 t446, .int .i64 t447, .int .i64 t448, .int .i64 t449, .int .u8 t450, .int .i64 0]) ?_ 9 _ rfl; (with_reducible repeat (first | refine blk_drewN ?_ _ | refine blk_drew ?_ | refine blk_alloc ?_ _)); refine blk_put (cs := #[.int .u16 t442, .int .u8 t443, .int .u8 t444, .int .u8 t445, .int .u8 t446, .int .i64 t447, .int .i64 t448, .int .i64 t449, .int .u8 0, .int .i64 0]) ?_ 8 _ rfl; (with_reducible repeat (first | refine blk_drewN ?_ _ | refine blk_drew ?_ | refine blk_alloc ?_ _)); refine blk_put (cs := #[.int .u16 t442, .int .u8 t443, .int .u8 t444, .int .u8 t445, .int .u8 t446, .int .i64 t447, .int .i64 t448, .int .i64 0, .int .u8 0, .int .i64 0]) ?_ 7 _ rfl; (with_reducible repeat (first | refine blk_drewN ?_ _ | refine blk_drew ?_ | refine blk_alloc ?_ _)); refine blk_put (cs := #[.int .u16 t442, .int .u8 t443, .int .u8 t444, .int .u8 t445, .int .u8 t446, .int .i64 t447, .int .i64 0, .int .i64 0, .int .u8 0, .int .i64 0]) ?_ 6 _ rfl; (with_reducible repeat (first | refine blk_drewN ?_ _ | refine blk_drew ?_ | refine blk_alloc ?_ _)); refine blk_put (cs := #[.int .u16 t442, .int .u8 t443, .int .u8 t444, .int .u8 t445, .int .u8 t446, .int .i64 0, .int .i64 0, .int .i64 0, .int .u8 0, .int .i64 0]) ?_ 5 _ rfl; (with_reducible repeat (first | refine blk_drewN ?_ _ | refine blk_drew ?_ | refine blk_alloc ?_ _)); refine blk_put (cs := #[.int .u16 t442, .int .u8 t443, .int .u8 t444, .int .u8 t445, .int .u8 0, .int .i64 0, .int .i64 0, .int .i64 0, .int .u8 0, .int .i64 0]) ?_ 4 _ rfl; (with_reducible repeat (first | refine blk_drewN ?_ _ | refine blk_drew ?_ | refine blk_alloc ?_ _)); refine blk_put (cs := #[.int .u16 t442, .int .u8 t443, .int .u8 t444, .int .u8 0, .int .u8 0, .int .i64 0, .int .i64 0, .int .i64 0, .int .u8 0, .int .i64 0]) ?_ 3 _ rfl; (with_reducible repeat (first | refine blk_drewN ?_ _ | refine blk_drew ?_ | refine blk_alloc ?_ _)); refine blk_put (cs := #[.int .u16 t442, .int .u8 t443, .int .u8 0, .int .u8 0, .int .u8 0, .int .i64 0, .int .i64 0, .int .i64 0, .int .u8 0, .int .i64 0]) ?_ 2 _ rfl; (with_reducible repeat (first | refine blk_drewN ?_ _ | refine blk_drew ?_ | refine blk_alloc ?_ _)); refine blk_put (cs := #[.int .u16 t442, .int .u8 0, .int .u8 0, .int .u8 0, .int .u8 0, .int .i64 0, .int .i64 0, .int .i64 0, .int .u8 0, .int .i64 0]) ?_ 1 _ rfl; (with_reducible repeat (first | refine blk_drewN ?_ _ | refine blk_drew ?_ | refine blk_alloc ?_ _)); refine blk_put (cs := #[.int .u16 0, .int .u8 0, .int .u8 0, .int .u8 0, .int .u8 0, .int .i64 0, .int .i64 0, .int .i64 0, .int .u8 0, .int .i64 0]) ?_ 0 _ rfl; (with_reducible repeat (first | refine blk_drewN ?_ _ | refine blk_drew ?_ | refine blk_alloc ?_ _)); exact BK453.out⟩, ⟨by repeat (first | (with_reducible first | exact HB.out | apply below_alloc | apply pw_below_drewN | apply below_drew1 | refine below_set ?_ GE428.out | refine below_set ?_ GE429.out | refine below_set ?_ GE441.out | refine below_set ?_ GE453.out) | exact HB.out)⟩⟩
  case rest =>
    clear HC5
    try clear c1
    try clear c2
    try clear p2
    try clear c5
    try clear c8
    try clear c12
    try clear c13
    try clear c14
    try clear c18
    try clear c19
    try clear c20
    try clear c22
    try clear c22b0
    try clear c22b1
    try clear c23
    try clear c23b0
    try clear c23b1
    try clear c25
    try clear c26
    try clear c27
    try clear hcz14_0
    try clear hcz14_1
    try clear hcz14_2
    try clear hcz14_3
    try clear hcz14_4
    try clear hcz14_5
    try clear hcz14_6
    try clear hcz14_7
    try clear hcz14_8
    try clear hcz14_9
    try clear hcz15_0
    try clear hcz15_1
    try clear hcz15_10
    try clear hcz15_11
    try clear hcz15_12
    try clear hcz15_13
    try clear hcz15_14
    try clear hcz15_15
    try clear hcz15_16
    try clear hcz15_17
    try clear hcz15_18
    try clear hcz15_19
    try clear hcz15_2
    try clear hcz15_20
    try clear hcz15_21
    try clear hcz15_22
    try clear hcz15_23
    try clear hcz15_24
    try clear hcz15_25
    try clear hcz15_26
    try clear hcz15_27
    try clear hcz15_28
    try clear hcz15_29
    try clear hcz15_3
    try clear hcz15_4
    try clear hcz15_5
    try clear hcz15_6
    try clear hcz15_7
    try clear hcz15_8
    try clear hcz15_9
    try clear hcz21_0
    try clear hcz21_1
    try clear hcz21_2
    try clear hcz21_3
    try clear hcz21_4
    try clear hcz21_5
    try clear hcz21_6
    try clear hcz21_7
    try clear hcz21_8
    try clear hcz21_9
    try clear hcz28_0
    try clear hcz28_1
    try clear hcz28_2
    try clear hcz28_3
    try clear hcz28_4
    try clear hcz28_5
    try clear hcz28_6
    try clear hcz28_7
    try clear hcz28_8
    try clear hcz9_0
    try clear hcz9_1
    try clear hcz9_10
    try clear hcz9_11
    try clear hcz9_12
    try clear hcz9_13
    try clear hcz9_14
    try clear hcz9_15
    try clear hcz9_16
    try clear hcz9_17
    try clear hcz9_18
    try clear hcz9_19
    try clear hcz9_2
    try clear hcz9_20
    try clear hcz9_21
    try clear hcz9_22
    try clear hcz9_23
    try clear hcz9_24
    try clear hcz9_25
    try clear hcz9_26
    try clear hcz9_27
    try clear hcz9_28
    try clear hcz9_29
    try clear hcz9_3
    try clear hcz9_4
    try clear hcz9_5
    try clear hcz9_6
    try clear hcz9_7
    try clear hcz9_8
    try clear hcz9_9
    try clear hfz14_0
    try clear hfz14_1
    try clear hfz14_2
    try clear hfz14_3
    try clear hfz14_4
    try clear hfz14_5
    try clear hfz14_6
    try clear hfz14_7
    try clear hfz14_8
    try clear hfz14_9
    try clear hfz15_0
    try clear hfz15_1
    try clear hfz15_10
    try clear hfz15_11
    try clear hfz15_12
    try clear hfz15_13
    try clear hfz15_14
    try clear hfz15_15
    try clear hfz15_16
    try clear hfz15_17
    try clear hfz15_18
    try clear hfz15_19
    try clear hfz15_2
    try clear hfz15_20
    try clear hfz15_21
    try clear hfz15_22
    try clear hfz15_23
    try clear hfz15_24
    try clear hfz15_25
    try clear hfz15_26
    try clear hfz15_27
    try clear hfz15_28
    try clear hfz15_29
    try clear hfz15_3
    try clear hfz15_4
    try clear hfz15_5
    try clear hfz15_6
    try clear hfz15_7
    try clear hfz15_8
    try clear hfz15_9
    try clear hfz21_0
    try clear hfz21_1
    try clear hfz21_2
    try clear hfz21_3
    try clear hfz21_4
    try clear hfz21_5
    try clear hfz21_6
    try clear hfz21_7
    try clear hfz21_8
    try clear hfz21_9
    try clear hfz28_0
    try clear hfz28_1
    try clear hfz28_2
    try clear hfz28_3
    try clear hfz28_4
    try clear hfz28_5
    try clear hfz28_6
    try clear hfz28_7
    try clear hfz28_8
    try clear hfz9_0
    try clear hfz9_1
    try clear hfz9_10
    try clear hfz9_11
    try clear hfz9_12
    try clear hfz9_13
    try clear hfz9_14
    try clear hfz9_15
    try clear hfz9_16
    try clear hfz9_17
    try clear hfz9_18
    try clear hfz9_19
    try clear hfz9_2
    try clear hfz9_20
    try clear hfz9_21
    try clear hfz9_22
    try clear hfz9_23
    try clear hfz9_24
    try clear hfz9_25
    try clear hfz9_26
    try clear hfz9_27
    try clear hfz9_28
    try clear hfz9_29
    try clear hfz9_3
    try clear hfz9_4
    try clear hfz9_5
    try clear hfz9_6
    try clear hfz9_7
    try clear hfz9_8
    try clear hfz9_9
    obtain ⟨kq, x49_4, rfl, HA, HJ4, BK428, BK429, BK441, BK453, HB⟩ := hcut
    cases kq with
    | zero => exact absurd HA.out (by simp [stickfullaw06_StyleMerges.j0])
    | succ kj4 =>
      have H := HA.out
      clear HA
      simp only [stickfullaw06_StyleMerges.j0] at H
      by_cases c30 : x49_4 = true
      · subst c30
        have H1 : ((stickfullaw06_head.f kj4).bind fun t455 => (some t455)) = some r := by rw [if_pos rfl] at H; exact H
        clear H
        have H := H1
        clear H1
        replace H := Option.bind_eq_some_iff.mp H
        obtain ⟨t455, A310, H⟩ := H
        replace H : (some t455) = some r := H
        have A31 := Aside0.mk A310
        clear A310
        obtain rfl := Option.some.inj H
        go_wp2_with (first | ((with_reducible refine gate_callee (f := 22) rfl ?_); refine goesB (some 50) rfl rfl Try.func22 #[] rfl ?_; (with_reducible refine (stickfullaw06_head.calls kj4  t455 _ A31.out).mono ?_); rintro e w32 ⟨rfl, hb⟩; refine ⟨_, rfl, ?_⟩; replace BK428 := bb BK428 hb; replace BK429 := bb BK429 hb; replace BK441 := bb BK441 hb; replace BK453 := bb BK453 hb; replace HB := bh HB hb; (try clear hb); (try clear hb2); (try clear hk); (try clear hi)))
        go_ret
        exact ⟨by first | rfl | (simp [errW_none, errW_some] <;> rfl) | (simp [*, errW_none, errW_some] <;> rfl), by repeat (first | (with_reducible first | exact HB.out | apply below_alloc | apply pw_below_drewN | apply below_drew1 | refine below_set ?_ GE428.out | refine below_set ?_ GE429.out | refine below_set ?_ GE441.out | refine below_set ?_ GE453.out) | exact HB.out)⟩
      · replace c30 := Bool.eq_false_iff.mpr c30
        subst c30
        have H1 : ((style_Merge.f t430 t431 t432 t433 t434 t435 t436 t437 t438 t439 a1_20 a1_21 a1_22 a1_23 a1_24 a1_25 a1_26 a1_27 a1_28 a1_29).bind fun bt456 => ((style_Merge.f a1_0 a1_1 a1_2 a1_3 a1_4 a1_5 a1_6 a1_7 a1_8 a1_9 t442 t443 t444 t445 t446 t447 t448 t449 t450 t451).bind fun bt468 => ((style_Resolve.f a0_0 a0_1 a0_2 a0_3 a0_4 a0_5 a0_6 a0_7 a0_8 a1_0 a1_1 a1_2 a1_3 a1_4 a1_5 a1_6 a1_7 a1_8 a1_9).bind fun bt480 => ((style_Resolve.f bt480.1 bt480.2.1 bt480.2.2.1 bt480.2.2.2.1 bt480.2.2.2.2.1 bt480.2.2.2.2.2.1 bt480.2.2.2.2.2.2.1 bt480.2.2.2.2.2.2.2.1 bt480.2.2.2.2.2.2.2.2.1 a1_10 a1_11 a1_12 a1_13 a1_14 a1_15 a1_16 a1_17 a1_18 a1_19).bind fun bt491 => ((style_Resolve.f a0_0 a0_1 a0_2 a0_3 a0_4 a0_5 a0_6 a0_7 a0_8 t430 t431 t432 t433 t434 t435 t436 t437 t438 t439).bind fun bt502 => ((style_Merge.f a1_0 a1_1 a1_2 a1_3 a1_4 a1_5 a1_6 a1_7 a1_8 a1_9 0 0 0 0 0 0 0 0 0 0).bind fun bt513 => ((style_Resolve.f a0_0 a0_1 a0_2 a0_3 a0_4 a0_5 a0_6 a0_7 a0_8 0 0 0 0 0 0 0 0 0 0).bind fun bt525 => (if (bt456.1 == bt468.1 && ((bt456.2.1 == bt468.2.1 && (bt456.2.2.1 == bt468.2.2.1 && (bt456.2.2.2.1 == bt468.2.2.2.1 && (bt456.2.2.2.2.1 == bt468.2.2.2.2.1 && (bt456.2.2.2.2.2.1 == bt468.2.2.2.2.2.1 && (bt456.2.2.2.2.2.2.1 == bt468.2.2.2.2.2.2.1 && (bt456.2.2.2.2.2.2.2.1 == bt468.2.2.2.2.2.2.2.1 && (bt456.2.2.2.2.2.2.2.2.1 == bt468.2.2.2.2.2.2.2.2.1 && (bt456.2.2.2.2.2.2.2.2.2.1 == bt468.2.2.2.2.2.2.2.2.2.1))))))))))) = true then (if bt456.2.2.2.2.2.2.2.2.2.2 = 0 then (if bt468.2.2.2.2.2.2.2.2.2.2 = 0 then (if bt480.2.2.2.2.2.2.2.2.2 = 0 then (if bt491.2.2.2.2.2.2.2.2.2 = 0 then (if bt502.2.2.2.2.2.2.2.2.2 = 0 then (if (bt491.1 == bt502.1 && (bt491.2.1 == bt502.2.1 && (bt491.2.2.1 == bt502.2.2.1 && (bt491.2.2.2.1 == bt502.2.2.2.1 && (bt491.2.2.2.2.1 == bt502.2.2.2.2.1 && (bt491.2.2.2.2.2.1 == bt502.2.2.2.2.2.1 && (bt491.2.2.2.2.2.2.1 == bt502.2.2.2.2.2.2.1 && (bt491.2.2.2.2.2.2.2.1 == bt502.2.2.2.2.2.2.2.1 && (bt491.2.2.2.2.2.2.2.2.1 == bt502.2.2.2.2.2.2.2.2.1))))))))) = true then (if (bt513.1 == a1_0 && ((bt513.2.1 == a1_1 && (bt513.2.2.1 == a1_2 && (bt513.2.2.2.1 == a1_3 && (bt513.2.2.2.2.1 == a1_4 && (bt513.2.2.2.2.2.1 == a1_5 && (bt513.2.2.2.2.2.2.1 == a1_6 && (bt513.2.2.2.2.2.2.2.1 == a1_7 && (bt513.2.2.2.2.2.2.2.2.1 == a1_8 && (bt513.2.2.2.2.2.2.2.2.2.1 == a1_9))))))))))) = true then (if bt513.2.2.2.2.2.2.2.2.2.2 = 0 then (if (bt525.1 == a0_0 && (bt525.2.1 == a0_1 && (bt525.2.2.1 == a0_2 && (bt525.2.2.2.1 == a0_3 && (bt525.2.2.2.2.1 == a0_4 && (bt525.2.2.2.2.2.1 == a0_5 && (bt525.2.2.2.2.2.2.1 == a0_6 && (bt525.2.2.2.2.2.2.2.1 == a0_7 && (bt525.2.2.2.2.2.2.2.2.1 == a0_8))))))))) = true then (if bt525.2.2.2.2.2.2.2.2.2 = 0 then ((style_Check.f bt491.1 bt491.2.1 bt491.2.2.1 bt491.2.2.2.1 bt491.2.2.2.2.1 bt491.2.2.2.2.2.1 bt491.2.2.2.2.2.2.1 bt491.2.2.2.2.2.2.2.1 bt491.2.2.2.2.2.2.2.2.1).bind fun t536 => (if t536 = 0 then ((stickfullaw06_head.f kj4).bind fun t537 => (some t537)) else (some false))) else (some false)) else (some false)) else (some false)) else (some false)) else (some false)) else (some false)) else (some false)) else (some false)) else (some false)) else (some false)) else (some false))))))))) = some r := by rw [if_neg (show ¬ (false = true) by decide)] at H; exact H
        clear H
        have H := H1
        clear H1
        replace H := Option.bind_eq_some_iff.mp H
        obtain ⟨⟨t456, t457, t458, t459, t460, t461, t462, t463, t464, t465, t466⟩, A330, H⟩ := H
        replace H : ((style_Merge.f a1_0 a1_1 a1_2 a1_3 a1_4 a1_5 a1_6 a1_7 a1_8 a1_9 t442 t443 t444 t445 t446 t447 t448 t449 t450 t451).bind fun bt468 => ((style_Resolve.f a0_0 a0_1 a0_2 a0_3 a0_4 a0_5 a0_6 a0_7 a0_8 a1_0 a1_1 a1_2 a1_3 a1_4 a1_5 a1_6 a1_7 a1_8 a1_9).bind fun bt480 => ((style_Resolve.f bt480.1 bt480.2.1 bt480.2.2.1 bt480.2.2.2.1 bt480.2.2.2.2.1 bt480.2.2.2.2.2.1 bt480.2.2.2.2.2.2.1 bt480.2.2.2.2.2.2.2.1 bt480.2.2.2.2.2.2.2.2.1 a1_10 a1_11 a1_12 a1_13 a1_14 a1_15 a1_16 a1_17 a1_18 a1_19).bind fun bt491 => ((style_Resolve.f a0_0 a0_1 a0_2 a0_3 a0_4 a0_5 a0_6 a0_7 a0_8 t430 t431 t432 t433 t434 t435 t436 t437 t438 t439).bind fun bt502 => ((style_Merge.f a1_0 a1_1 a1_2 a1_3 a1_4 a1_5 a1_6 a1_7 a1_8 a1_9 0 0 0 0 0 0 0 0 0 0).bind fun bt513 => ((style_Resolve.f a0_0 a0_1 a0_2 a0_3 a0_4 a0_5 a0_6 a0_7 a0_8 0 0 0 0 0 0 0 0 0 0).bind fun bt525 => (if (t456 == bt468.1 && ((t457 == bt468.2.1 && (t458 == bt468.2.2.1 && (t459 == bt468.2.2.2.1 && (t460 == bt468.2.2.2.2.1 && (t461 == bt468.2.2.2.2.2.1 && (t462 == bt468.2.2.2.2.2.2.1 && (t463 == bt468.2.2.2.2.2.2.2.1 && (t464 == bt468.2.2.2.2.2.2.2.2.1 && (t465 == bt468.2.2.2.2.2.2.2.2.2.1))))))))))) = true then (if t466 = 0 then (if bt468.2.2.2.2.2.2.2.2.2.2 = 0 then (if bt480.2.2.2.2.2.2.2.2.2 = 0 then (if bt491.2.2.2.2.2.2.2.2.2 = 0 then (if bt502.2.2.2.2.2.2.2.2.2 = 0 then (if (bt491.1 == bt502.1 && (bt491.2.1 == bt502.2.1 && (bt491.2.2.1 == bt502.2.2.1 && (bt491.2.2.2.1 == bt502.2.2.2.1 && (bt491.2.2.2.2.1 == bt502.2.2.2.2.1 && (bt491.2.2.2.2.2.1 == bt502.2.2.2.2.2.1 && (bt491.2.2.2.2.2.2.1 == bt502.2.2.2.2.2.2.1 && (bt491.2.2.2.2.2.2.2.1 == bt502.2.2.2.2.2.2.2.1 && (bt491.2.2.2.2.2.2.2.2.1 == bt502.2.2.2.2.2.2.2.2.1))))))))) = true then (if (bt513.1 == a1_0 && ((bt513.2.1 == a1_1 && (bt513.2.2.1 == a1_2 && (bt513.2.2.2.1 == a1_3 && (bt513.2.2.2.2.1 == a1_4 && (bt513.2.2.2.2.2.1 == a1_5 && (bt513.2.2.2.2.2.2.1 == a1_6 && (bt513.2.2.2.2.2.2.2.1 == a1_7 && (bt513.2.2.2.2.2.2.2.2.1 == a1_8 && (bt513.2.2.2.2.2.2.2.2.2.1 == a1_9))))))))))) = true then (if bt513.2.2.2.2.2.2.2.2.2.2 = 0 then (if (bt525.1 == a0_0 && (bt525.2.1 == a0_1 && (bt525.2.2.1 == a0_2 && (bt525.2.2.2.1 == a0_3 && (bt525.2.2.2.2.1 == a0_4 && (bt525.2.2.2.2.2.1 == a0_5 && (bt525.2.2.2.2.2.2.1 == a0_6 && (bt525.2.2.2.2.2.2.2.1 == a0_7 && (bt525.2.2.2.2.2.2.2.2.1 == a0_8))))))))) = true then (if bt525.2.2.2.2.2.2.2.2.2 = 0 then ((style_Check.f bt491.1 bt491.2.1 bt491.2.2.1 bt491.2.2.2.1 bt491.2.2.2.2.1 bt491.2.2.2.2.2.1 bt491.2.2.2.2.2.2.1 bt491.2.2.2.2.2.2.2.1 bt491.2.2.2.2.2.2.2.2.1).bind fun t536 => (if t536 = 0 then ((stickfullaw06_head.f kj4).bind fun t537 => (some t537)) else (some false))) else (some false)) else (some false)) else (some false)) else (some false)) else (some false)) else (some false)) else (some false)) else (some false)) else (some false)) else (some false)) else (some false)))))))) = some r := H
        have A33 := Aside0.mk A330
        clear A330
        replace H := Option.bind_eq_some_iff.mp H
        obtain ⟨⟨t468, t469, t470, t471, t472, t473, t474, t475, t476, t477, t478⟩, A340, H⟩ := H
        replace H : ((style_Resolve.f a0_0 a0_1 a0_2 a0_3 a0_4 a0_5 a0_6 a0_7 a0_8 a1_0 a1_1 a1_2 a1_3 a1_4 a1_5 a1_6 a1_7 a1_8 a1_9).bind fun bt480 => ((style_Resolve.f bt480.1 bt480.2.1 bt480.2.2.1 bt480.2.2.2.1 bt480.2.2.2.2.1 bt480.2.2.2.2.2.1 bt480.2.2.2.2.2.2.1 bt480.2.2.2.2.2.2.2.1 bt480.2.2.2.2.2.2.2.2.1 a1_10 a1_11 a1_12 a1_13 a1_14 a1_15 a1_16 a1_17 a1_18 a1_19).bind fun bt491 => ((style_Resolve.f a0_0 a0_1 a0_2 a0_3 a0_4 a0_5 a0_6 a0_7 a0_8 t430 t431 t432 t433 t434 t435 t436 t437 t438 t439).bind fun bt502 => ((style_Merge.f a1_0 a1_1 a1_2 a1_3 a1_4 a1_5 a1_6 a1_7 a1_8 a1_9 0 0 0 0 0 0 0 0 0 0).bind fun bt513 => ((style_Resolve.f a0_0 a0_1 a0_2 a0_3 a0_4 a0_5 a0_6 a0_7 a0_8 0 0 0 0 0 0 0 0 0 0).bind fun bt525 => (if (t456 == t468 && ((t457 == t469 && (t458 == t470 && (t459 == t471 && (t460 == t472 && (t461 == t473 && (t462 == t474 && (t463 == t475 && (t464 == t476 && (t465 == t477))))))))))) = true then (if t466 = 0 then (if t478 = 0 then (if bt480.2.2.2.2.2.2.2.2.2 = 0 then (if bt491.2.2.2.2.2.2.2.2.2 = 0 then (if bt502.2.2.2.2.2.2.2.2.2 = 0 then (if (bt491.1 == bt502.1 && (bt491.2.1 == bt502.2.1 && (bt491.2.2.1 == bt502.2.2.1 && (bt491.2.2.2.1 == bt502.2.2.2.1 && (bt491.2.2.2.2.1 == bt502.2.2.2.2.1 && (bt491.2.2.2.2.2.1 == bt502.2.2.2.2.2.1 && (bt491.2.2.2.2.2.2.1 == bt502.2.2.2.2.2.2.1 && (bt491.2.2.2.2.2.2.2.1 == bt502.2.2.2.2.2.2.2.1 && (bt491.2.2.2.2.2.2.2.2.1 == bt502.2.2.2.2.2.2.2.2.1))))))))) = true then (if (bt513.1 == a1_0 && ((bt513.2.1 == a1_1 && (bt513.2.2.1 == a1_2 && (bt513.2.2.2.1 == a1_3 && (bt513.2.2.2.2.1 == a1_4 && (bt513.2.2.2.2.2.1 == a1_5 && (bt513.2.2.2.2.2.2.1 == a1_6 && (bt513.2.2.2.2.2.2.2.1 == a1_7 && (bt513.2.2.2.2.2.2.2.2.1 == a1_8 && (bt513.2.2.2.2.2.2.2.2.2.1 == a1_9))))))))))) = true then (if bt513.2.2.2.2.2.2.2.2.2.2 = 0 then (if (bt525.1 == a0_0 && (bt525.2.1 == a0_1 && (bt525.2.2.1 == a0_2 && (bt525.2.2.2.1 == a0_3 && (bt525.2.2.2.2.1 == a0_4 && (bt525.2.2.2.2.2.1 == a0_5 && (bt525.2.2.2.2.2.2.1 == a0_6 && (bt525.2.2.2.2.2.2.2.1 == a0_7 && (bt525.2.2.2.2.2.2.2.2.1 == a0_8))))))))) = true then (if bt525.2.2.2.2.2.2.2.2.2 = 0 then ((style_Check.f bt491.1 bt491.2.1 bt491.2.2.1 bt491.2.2.2.1 bt491.2.2.2.2.1 bt491.2.2.2.2.2.1 bt491.2.2.2.2.2.2.1 bt491.2.2.2.2.2.2.2.1 bt491.2.2.2.2.2.2.2.2.1).bind fun t536 => (if t536 = 0 then ((stickfullaw06_head.f kj4).bind fun t537 => (some t537)) else (some false))) else (some false)) else (some false)) else (some false)) else (some false)) else (some false)) else (some false)) else (some false)) else (some false)) else (some false)) else (some false)) else (some false))))))) = some r := H
        have A34 := Aside0.mk A340
        clear A340
        replace H := Option.bind_eq_some_iff.mp H
        obtain ⟨⟨t480, t481, t482, t483, t484, t485, t486, t487, t488, t489⟩, A350, H⟩ := H
        replace H : ((style_Resolve.f t480 t481 t482 t483 t484 t485 t486 t487 t488 a1_10 a1_11 a1_12 a1_13 a1_14 a1_15 a1_16 a1_17 a1_18 a1_19).bind fun bt491 => ((style_Resolve.f a0_0 a0_1 a0_2 a0_3 a0_4 a0_5 a0_6 a0_7 a0_8 t430 t431 t432 t433 t434 t435 t436 t437 t438 t439).bind fun bt502 => ((style_Merge.f a1_0 a1_1 a1_2 a1_3 a1_4 a1_5 a1_6 a1_7 a1_8 a1_9 0 0 0 0 0 0 0 0 0 0).bind fun bt513 => ((style_Resolve.f a0_0 a0_1 a0_2 a0_3 a0_4 a0_5 a0_6 a0_7 a0_8 0 0 0 0 0 0 0 0 0 0).bind fun bt525 => (if (t456 == t468 && ((t457 == t469 && (t458 == t470 && (t459 == t471 && (t460 == t472 && (t461 == t473 && (t462 == t474 && (t463 == t475 && (t464 == t476 && (t465 == t477))))))))))) = true then (if t466 = 0 then (if t478 = 0 then (if t489 = 0 then (if bt491.2.2.2.2.2.2.2.2.2 = 0 then (if bt502.2.2.2.2.2.2.2.2.2 = 0 then (if (bt491.1 == bt502.1 && (bt491.2.1 == bt502.2.1 && (bt491.2.2.1 == bt502.2.2.1 && (bt491.2.2.2.1 == bt502.2.2.2.1 && (bt491.2.2.2.2.1 == bt502.2.2.2.2.1 && (bt491.2.2.2.2.2.1 == bt502.2.2.2.2.2.1 && (bt491.2.2.2.2.2.2.1 == bt502.2.2.2.2.2.2.1 && (bt491.2.2.2.2.2.2.2.1 == bt502.2.2.2.2.2.2.2.1 && (bt491.2.2.2.2.2.2.2.2.1 == bt502.2.2.2.2.2.2.2.2.1))))))))) = true then (if (bt513.1 == a1_0 && ((bt513.2.1 == a1_1 && (bt513.2.2.1 == a1_2 && (bt513.2.2.2.1 == a1_3 && (bt513.2.2.2.2.1 == a1_4 && (bt513.2.2.2.2.2.1 == a1_5 && (bt513.2.2.2.2.2.2.1 == a1_6 && (bt513.2.2.2.2.2.2.2.1 == a1_7 && (bt513.2.2.2.2.2.2.2.2.1 == a1_8 && (bt513.2.2.2.2.2.2.2.2.2.1 == a1_9))))))))))) = true then (if bt513.2.2.2.2.2.2.2.2.2.2 = 0 then (if (bt525.1 == a0_0 && (bt525.2.1 == a0_1 && (bt525.2.2.1 == a0_2 && (bt525.2.2.2.1 == a0_3 && (bt525.2.2.2.2.1 == a0_4 && (bt525.2.2.2.2.2.1 == a0_5 && (bt525.2.2.2.2.2.2.1 == a0_6 && (bt525.2.2.2.2.2.2.2.1 == a0_7 && (bt525.2.2.2.2.2.2.2.2.1 == a0_8))))))))) = true then (if bt525.2.2.2.2.2.2.2.2.2 = 0 then ((style_Check.f bt491.1 bt491.2.1 bt491.2.2.1 bt491.2.2.2.1 bt491.2.2.2.2.1 bt491.2.2.2.2.2.1 bt491.2.2.2.2.2.2.1 bt491.2.2.2.2.2.2.2.1 bt491.2.2.2.2.2.2.2.2.1).bind fun t536 => (if t536 = 0 then ((stickfullaw06_head.f kj4).bind fun t537 => (some t537)) else (some false))) else (some false)) else (some false)) else (some false)) else (some false)) else (some false)) else (some false)) else (some false)) else (some false)) else (some false)) else (some false)) else (some false)))))) = some r := H
        have A35 := Aside0.mk A350
        clear A350
        replace H := Option.bind_eq_some_iff.mp H
        obtain ⟨⟨t491, t492, t493, t494, t495, t496, t497, t498, t499, t500⟩, A360, H⟩ := H
        replace H : ((style_Resolve.f a0_0 a0_1 a0_2 a0_3 a0_4 a0_5 a0_6 a0_7 a0_8 t430 t431 t432 t433 t434 t435 t436 t437 t438 t439).bind fun bt502 => ((style_Merge.f a1_0 a1_1 a1_2 a1_3 a1_4 a1_5 a1_6 a1_7 a1_8 a1_9 0 0 0 0 0 0 0 0 0 0).bind fun bt513 => ((style_Resolve.f a0_0 a0_1 a0_2 a0_3 a0_4 a0_5 a0_6 a0_7 a0_8 0 0 0 0 0 0 0 0 0 0).bind fun bt525 => (if (t456 == t468 && ((t457 == t469 && (t458 == t470 && (t459 == t471 && (t460 == t472 && (t461 == t473 && (t462 == t474 && (t463 == t475 && (t464 == t476 && (t465 == t477))))))))))) = true then (if t466 = 0 then (if t478 = 0 then (if t489 = 0 then (if t500 = 0 then (if bt502.2.2.2.2.2.2.2.2.2 = 0 then (if (t491 == bt502.1 && (t492 == bt502.2.1 && (t493 == bt502.2.2.1 && (t494 == bt502.2.2.2.1 && (t495 == bt502.2.2.2.2.1 && (t496 == bt502.2.2.2.2.2.1 && (t497 == bt502.2.2.2.2.2.2.1 && (t498 == bt502.2.2.2.2.2.2.2.1 && (t499 == bt502.2.2.2.2.2.2.2.2.1))))))))) = true then (if (bt513.1 == a1_0 && ((bt513.2.1 == a1_1 && (bt513.2.2.1 == a1_2 && (bt513.2.2.2.1 == a1_3 && (bt513.2.2.2.2.1 == a1_4 && (bt513.2.2.2.2.2.1 == a1_5 && (bt513.2.2.2.2.2.2.1 == a1_6 && (bt513.2.2.2.2.2.2.2.1 == a1_7 && (bt513.2.2.2.2.2.2.2.2.1 == a1_8 && (bt513.2.2.2.2.2.2.2.2.2.1 == a1_9))))))))))) = true then (if bt513.2.2.2.2.2.2.2.2.2.2 = 0 then (if (bt525.1 == a0_0 && (bt525.2.1 == a0_1 && (bt525.2.2.1 == a0_2 && (bt525.2.2.2.1 == a0_3 && (bt525.2.2.2.2.1 == a0_4 && (bt525.2.2.2.2.2.1 == a0_5 && (bt525.2.2.2.2.2.2.1 == a0_6 && (bt525.2.2.2.2.2.2.2.1 == a0_7 && (bt525.2.2.2.2.2.2.2.2.1 == a0_8))))))))) = true then (if bt525.2.2.2.2.2.2.2.2.2 = 0 then ((style_Check.f t491 t492 t493 t494 t495 t496 t497 t498 t499).bind fun t536 => (if t536 = 0 then ((stickfullaw06_head.f kj4).bind fun t537 => (some t537)) else (some false))) else (some false)) else (some false)) else (some false)) else (some false)) else (some false)) else (some false)) else (some false)) else (some false)) else (some false)) else (some false)) else (some false))))) = some r := H
        have A36 := Aside0.mk A360
        clear A360
        replace H := Option.bind_eq_some_iff.mp H
        obtain ⟨⟨t502, t503, t504, t505, t506, t507, t508, t509, t510, t511⟩, A370, H⟩ := H
        replace H : ((style_Merge.f a1_0 a1_1 a1_2 a1_3 a1_4 a1_5 a1_6 a1_7 a1_8 a1_9 0 0 0 0 0 0 0 0 0 0).bind fun bt513 => ((style_Resolve.f a0_0 a0_1 a0_2 a0_3 a0_4 a0_5 a0_6 a0_7 a0_8 0 0 0 0 0 0 0 0 0 0).bind fun bt525 => (if (t456 == t468 && ((t457 == t469 && (t458 == t470 && (t459 == t471 && (t460 == t472 && (t461 == t473 && (t462 == t474 && (t463 == t475 && (t464 == t476 && (t465 == t477))))))))))) = true then (if t466 = 0 then (if t478 = 0 then (if t489 = 0 then (if t500 = 0 then (if t511 = 0 then (if (t491 == t502 && (t492 == t503 && (t493 == t504 && (t494 == t505 && (t495 == t506 && (t496 == t507 && (t497 == t508 && (t498 == t509 && (t499 == t510))))))))) = true then (if (bt513.1 == a1_0 && ((bt513.2.1 == a1_1 && (bt513.2.2.1 == a1_2 && (bt513.2.2.2.1 == a1_3 && (bt513.2.2.2.2.1 == a1_4 && (bt513.2.2.2.2.2.1 == a1_5 && (bt513.2.2.2.2.2.2.1 == a1_6 && (bt513.2.2.2.2.2.2.2.1 == a1_7 && (bt513.2.2.2.2.2.2.2.2.1 == a1_8 && (bt513.2.2.2.2.2.2.2.2.2.1 == a1_9))))))))))) = true then (if bt513.2.2.2.2.2.2.2.2.2.2 = 0 then (if (bt525.1 == a0_0 && (bt525.2.1 == a0_1 && (bt525.2.2.1 == a0_2 && (bt525.2.2.2.1 == a0_3 && (bt525.2.2.2.2.1 == a0_4 && (bt525.2.2.2.2.2.1 == a0_5 && (bt525.2.2.2.2.2.2.1 == a0_6 && (bt525.2.2.2.2.2.2.2.1 == a0_7 && (bt525.2.2.2.2.2.2.2.2.1 == a0_8))))))))) = true then (if bt525.2.2.2.2.2.2.2.2.2 = 0 then ((style_Check.f t491 t492 t493 t494 t495 t496 t497 t498 t499).bind fun t536 => (if t536 = 0 then ((stickfullaw06_head.f kj4).bind fun t537 => (some t537)) else (some false))) else (some false)) else (some false)) else (some false)) else (some false)) else (some false)) else (some false)) else (some false)) else (some false)) else (some false)) else (some false)) else (some false)))) = some r := H
        have A37 := Aside0.mk A370
        clear A370
        replace H := Option.bind_eq_some_iff.mp H
        obtain ⟨⟨t513, t514, t515, t516, t517, t518, t519, t520, t521, t522, t523⟩, A380, H⟩ := H
        replace H : ((style_Resolve.f a0_0 a0_1 a0_2 a0_3 a0_4 a0_5 a0_6 a0_7 a0_8 0 0 0 0 0 0 0 0 0 0).bind fun bt525 => (if (t456 == t468 && ((t457 == t469 && (t458 == t470 && (t459 == t471 && (t460 == t472 && (t461 == t473 && (t462 == t474 && (t463 == t475 && (t464 == t476 && (t465 == t477))))))))))) = true then (if t466 = 0 then (if t478 = 0 then (if t489 = 0 then (if t500 = 0 then (if t511 = 0 then (if (t491 == t502 && (t492 == t503 && (t493 == t504 && (t494 == t505 && (t495 == t506 && (t496 == t507 && (t497 == t508 && (t498 == t509 && (t499 == t510))))))))) = true then (if (t513 == a1_0 && ((t514 == a1_1 && (t515 == a1_2 && (t516 == a1_3 && (t517 == a1_4 && (t518 == a1_5 && (t519 == a1_6 && (t520 == a1_7 && (t521 == a1_8 && (t522 == a1_9))))))))))) = true then (if t523 = 0 then (if (bt525.1 == a0_0 && (bt525.2.1 == a0_1 && (bt525.2.2.1 == a0_2 && (bt525.2.2.2.1 == a0_3 && (bt525.2.2.2.2.1 == a0_4 && (bt525.2.2.2.2.2.1 == a0_5 && (bt525.2.2.2.2.2.2.1 == a0_6 && (bt525.2.2.2.2.2.2.2.1 == a0_7 && (bt525.2.2.2.2.2.2.2.2.1 == a0_8))))))))) = true then (if bt525.2.2.2.2.2.2.2.2.2 = 0 then ((style_Check.f t491 t492 t493 t494 t495 t496 t497 t498 t499).bind fun t536 => (if t536 = 0 then ((stickfullaw06_head.f kj4).bind fun t537 => (some t537)) else (some false))) else (some false)) else (some false)) else (some false)) else (some false)) else (some false)) else (some false)) else (some false)) else (some false)) else (some false)) else (some false)) else (some false))) = some r := H
        have A38 := Aside0.mk A380
        clear A380
        replace H := Option.bind_eq_some_iff.mp H
        obtain ⟨⟨t525, t526, t527, t528, t529, t530, t531, t532, t533, t534⟩, A390, H⟩ := H
        replace H : (if (t456 == t468 && ((t457 == t469 && (t458 == t470 && (t459 == t471 && (t460 == t472 && (t461 == t473 && (t462 == t474 && (t463 == t475 && (t464 == t476 && (t465 == t477))))))))))) = true then (if t466 = 0 then (if t478 = 0 then (if t489 = 0 then (if t500 = 0 then (if t511 = 0 then (if (t491 == t502 && (t492 == t503 && (t493 == t504 && (t494 == t505 && (t495 == t506 && (t496 == t507 && (t497 == t508 && (t498 == t509 && (t499 == t510))))))))) = true then (if (t513 == a1_0 && ((t514 == a1_1 && (t515 == a1_2 && (t516 == a1_3 && (t517 == a1_4 && (t518 == a1_5 && (t519 == a1_6 && (t520 == a1_7 && (t521 == a1_8 && (t522 == a1_9))))))))))) = true then (if t523 = 0 then (if (t525 == a0_0 && (t526 == a0_1 && (t527 == a0_2 && (t528 == a0_3 && (t529 == a0_4 && (t530 == a0_5 && (t531 == a0_6 && (t532 == a0_7 && (t533 == a0_8))))))))) = true then (if t534 = 0 then ((style_Check.f t491 t492 t493 t494 t495 t496 t497 t498 t499).bind fun t536 => (if t536 = 0 then ((stickfullaw06_head.f kj4).bind fun t537 => (some t537)) else (some false))) else (some false)) else (some false)) else (some false)) else (some false)) else (some false)) else (some false)) else (some false)) else (some false)) else (some false)) else (some false)) else (some false)) = some r := H
        have A39 := Aside0.mk A390
        clear A390
        by_cases c40 : (t456 == t468 && ((t457 == t469 && (t458 == t470 && (t459 == t471 && (t460 == t472 && (t461 == t473 && (t462 == t474 && (t463 == t475 && (t464 == t476 && (t465 == t477))))))))))) = true
        · rw [if_pos c40] at H
          have c40b0 : (t456 == t468 && ((t457 == t469 && (t458 == t470 && (t459 == t471 && (t460 == t472 && (t461 == t473 && (t462 == t474 && (t463 == t475 && (t464 == t476 && (t465 == t477))))))))))) = true := c40
          (try (have c40b1 : decide (t456 = t468 && ((t457 == t469 && (t458 == t470 && (t459 == t471 && (t460 == t472 && (t461 == t473 && (t462 == t474 && (t463 == t475 && (t464 == t476 && (t465 == t477))))))))))) = true := by simpa using c40))
          (try (have c40b2 : (t456 == t468 && ((t457 == t469 && (t458 == t470 && (t459 == t471 && (t460 == t472 && (t461 == t473 && (t462 == t474 && (t463 == t475 && (t464 == t476 && (t465 == t477))))))))))) = true := by simpa using c40))
          clear c40
          by_cases c41 : t466 = 0
          · rw [if_pos c41] at H
            have c41b0 : (t466 == 0) = true := beq_iff_eq.mpr c41
            have c41b1 : (t466 != 0) = false := bne_eq_false_iff_eq.mpr c41
            clear c41
            by_cases c42 : t478 = 0
            · rw [if_pos c42] at H
              have c42b0 : (t478 == 0) = true := beq_iff_eq.mpr c42
              have c42b1 : (t478 != 0) = false := bne_eq_false_iff_eq.mpr c42
              clear c42
              by_cases c43 : t489 = 0
              · rw [if_pos c43] at H
                have c43b0 : (t489 == 0) = true := beq_iff_eq.mpr c43
                have c43b1 : (t489 != 0) = false := bne_eq_false_iff_eq.mpr c43
                clear c43
                by_cases c44 : t500 = 0
                · rw [if_pos c44] at H
                  have c44b0 : (t500 == 0) = true := beq_iff_eq.mpr c44
                  have c44b1 : (t500 != 0) = false := bne_eq_false_iff_eq.mpr c44
                  clear c44
                  by_cases c45 : t511 = 0
                  · rw [if_pos c45] at H
                    have c45b0 : (t511 == 0) = true := beq_iff_eq.mpr c45
                    have c45b1 : (t511 != 0) = false := bne_eq_false_iff_eq.mpr c45
                    clear c45
                    by_cases c46 : (t491 == t502 && (t492 == t503 && (t493 == t504 && (t494 == t505 && (t495 == t506 && (t496 == t507 && (t497 == t508 && (t498 == t509 && (t499 == t510))))))))) = true
                    · rw [if_pos c46] at H
                      have c46b0 : (t491 == t502 && (t492 == t503 && (t493 == t504 && (t494 == t505 && (t495 == t506 && (t496 == t507 && (t497 == t508 && (t498 == t509 && (t499 == t510))))))))) = true := c46
                      (try (have c46b1 : decide (t491 = t502 && (t492 == t503 && (t493 == t504 && (t494 == t505 && (t495 == t506 && (t496 == t507 && (t497 == t508 && (t498 == t509 && (t499 == t510))))))))) = true := by simpa using c46))
                      (try (have c46b2 : (t491 == t502 && (t492 == t503 && (t493 == t504 && (t494 == t505 && (t495 == t506 && (t496 == t507 && (t497 == t508 && (t498 == t509 && (t499 == t510))))))))) = true := by simpa using c46))
                      clear c46
                      by_cases c47 : (t513 == a1_0 && ((t514 == a1_1 && (t515 == a1_2 && (t516 == a1_3 && (t517 == a1_4 && (t518 == a1_5 && (t519 == a1_6 && (t520 == a1_7 && (t521 == a1_8 && (t522 == a1_9))))))))))) = true
                      · rw [if_pos c47] at H
                        have c47b0 : (t513 == a1_0 && ((t514 == a1_1 && (t515 == a1_2 && (t516 == a1_3 && (t517 == a1_4 && (t518 == a1_5 && (t519 == a1_6 && (t520 == a1_7 && (t521 == a1_8 && (t522 == a1_9))))))))))) = true := c47
                        (try (have c47b1 : decide (t513 = a1_0 && ((t514 == a1_1 && (t515 == a1_2 && (t516 == a1_3 && (t517 == a1_4 && (t518 == a1_5 && (t519 == a1_6 && (t520 == a1_7 && (t521 == a1_8 && (t522 == a1_9))))))))))) = true := by simpa using c47))
                        (try (have c47b2 : (t513 == a1_0 && ((t514 == a1_1 && (t515 == a1_2 && (t516 == a1_3 && (t517 == a1_4 && (t518 == a1_5 && (t519 == a1_6 && (t520 == a1_7 && (t521 == a1_8 && (t522 == a1_9))))))))))) = true := by simpa using c47))
                        clear c47
                        by_cases c48 : t523 = 0
                        · rw [if_pos c48] at H
                          have c48b0 : (t523 == 0) = true := beq_iff_eq.mpr c48
                          have c48b1 : (t523 != 0) = false := bne_eq_false_iff_eq.mpr c48
                          clear c48
                          by_cases c49 : (t525 == a0_0 && (t526 == a0_1 && (t527 == a0_2 && (t528 == a0_3 && (t529 == a0_4 && (t530 == a0_5 && (t531 == a0_6 && (t532 == a0_7 && (t533 == a0_8))))))))) = true
                          · rw [if_pos c49] at H
                            have c49b0 : (t525 == a0_0 && (t526 == a0_1 && (t527 == a0_2 && (t528 == a0_3 && (t529 == a0_4 && (t530 == a0_5 && (t531 == a0_6 && (t532 == a0_7 && (t533 == a0_8))))))))) = true := c49
                            (try (have c49b1 : decide (t525 = a0_0 && (t526 == a0_1 && (t527 == a0_2 && (t528 == a0_3 && (t529 == a0_4 && (t530 == a0_5 && (t531 == a0_6 && (t532 == a0_7 && (t533 == a0_8))))))))) = true := by simpa using c49))
                            (try (have c49b2 : (t525 == a0_0 && (t526 == a0_1 && (t527 == a0_2 && (t528 == a0_3 && (t529 == a0_4 && (t530 == a0_5 && (t531 == a0_6 && (t532 == a0_7 && (t533 == a0_8))))))))) = true := by simpa using c49))
                            clear c49
                            by_cases c50 : t534 = 0
                            · rw [if_pos c50] at H
                              have c50b0 : (t534 == 0) = true := beq_iff_eq.mpr c50
                              have c50b1 : (t534 != 0) = false := bne_eq_false_iff_eq.mpr c50
                              clear c50
                              replace H := Option.bind_eq_some_iff.mp H
                              obtain ⟨t536, A510, H⟩ := H
                              replace H : (if t536 = 0 then ((stickfullaw06_head.f kj4).bind fun t537 => (some t537)) else (some false)) = some r := H
                              have A51 := Aside0.mk A510
                              clear A510
                              by_cases c52 : t536 = 0
                              · rw [if_pos c52] at H
                                have c52b0 : (t536 == 0) = true := beq_iff_eq.mpr c52
                                have c52b1 : (t536 != 0) = false := bne_eq_false_iff_eq.mpr c52
                                clear c52
                                replace H := Option.bind_eq_some_iff.mp H
                                obtain ⟨t537, A530, H⟩ := H
                                replace H : (some t537) = some r := H
                                have A53 := Aside0.mk A530
                                clear A530
                                obtain rfl := Option.some.inj H
                                have hnb54 := NB441_428.out
                                have hnc54 := NB428_441.out
                                have hnb55 := NB441_429.out
                                have hnc55 := NB429_441.out
                                have hnb56 := NB441_453.out
                                have hnc56 := NB453_441.out
                                obtain ⟨hcz57_0, hcz57_1, hcz57_2, hcz57_3, hcz57_4, hcz57_5, hcz57_6, hcz57_7, hcz57_8, hcz57_9⟩ := cz10 BK441
                                obtain ⟨hfz57_0, hfz57_1, hfz57_2, hfz57_3, hfz57_4, hfz57_5, hfz57_6, hfz57_7, hfz57_8, hfz57_9⟩ := fz10 BK441
                                have hnb58 := NB429_428.out
                                have hnc58 := NB428_429.out
                                have hnb59 := NB429_453.out
                                have hnc59 := NB453_429.out
                                obtain ⟨hcz60_0, hcz60_1, hcz60_2, hcz60_3, hcz60_4, hcz60_5, hcz60_6, hcz60_7, hcz60_8, hcz60_9, hcz60_10, hcz60_11, hcz60_12, hcz60_13, hcz60_14, hcz60_15, hcz60_16, hcz60_17, hcz60_18, hcz60_19, hcz60_20, hcz60_21, hcz60_22, hcz60_23, hcz60_24, hcz60_25, hcz60_26, hcz60_27, hcz60_28, hcz60_29⟩ := cz30 BK429
                                obtain ⟨hfz60_0, hfz60_1, hfz60_2, hfz60_3, hfz60_4, hfz60_5, hfz60_6, hfz60_7, hfz60_8, hfz60_9, hfz60_10, hfz60_11, hfz60_12, hfz60_13, hfz60_14, hfz60_15, hfz60_16, hfz60_17, hfz60_18, hfz60_19, hfz60_20, hfz60_21, hfz60_22, hfz60_23, hfz60_24, hfz60_25, hfz60_26, hfz60_27, hfz60_28, hfz60_29⟩ := fz30 BK429
                                go_wp2_with (first | ((with_reducible refine gate_callee (f := 14) rfl ?_); refine goesB (some 55) rfl rfl Try.func14 #[.agg #[.int .u16 t430, .int .u8 t431, .int .u8 t432, .int .u8 t433, .int .u8 t434, .int .i64 t435, .int .i64 t436, .int .i64 t437, .int .u8 t438, .int .i64 t439], .agg #[.int .u16 a1_20, .int .u8 a1_21, .int .u8 a1_22, .int .u8 a1_23, .int .u8 a1_24, .int .i64 a1_25, .int .i64 a1_26, .int .i64 a1_27, .int .u8 a1_28, .int .i64 a1_29]] rfl ?_; (with_reducible refine (style_Merge.calls t430 t431 t432 t433 t434 t435 t436 t437 t438 t439 a1_20 a1_21 a1_22 a1_23 a1_24 a1_25 a1_26 a1_27 a1_28 a1_29 t456 t457 t458 t459 t460 t461 t462 t463 t464 t465 t466 _ A33.out).mono ?_); rintro e w61 ⟨rfl, hb⟩; refine ⟨_, rfl, ?_⟩; replace BK428 := bb BK428 hb; replace BK429 := bb BK429 hb; replace BK441 := bb BK441 hb; replace BK453 := bb BK453 hb; replace HB := bh HB hb; (try clear hb); (try clear hb2); (try clear hk); (try clear hi)) | ((with_reducible refine gate_dst (N := 9) rfl ?_); refine box_event ?hg (N := 9) ?hd (cs := #[.int .u16 0, .int .u8 0, .int .u8 0, .int .u8 0, .int .u8 0, .int .i64 0, .int .i64 0, .int .i64 0, .int .u8 0, .int .i64 0]) (t := 26) ?hr ?_; (case hd => rfl); (case hg => rfl); (case hr => first | (go_simp; done) | (go_simp; rfl)); intro gb467 hg w62 hbox hb; have BK467 := Aside0.mk (hbox); have GW467 := bge HB hg; have GE467 := bge HB hg; replace HB := bh HB hb; have NB428_467 := nbl BK428 hg; have NB467_428 := nbg BK428 hg; replace BK428 := bb BK428 hb; have NB429_467 := nbl BK429 hg; have NB467_429 := nbg BK429 hg; replace BK429 := bb BK429 hb; have NB441_467 := nbl BK441 hg; have NB467_441 := nbg BK441 hg; replace BK441 := bb BK441 hb; have NB453_467 := nbl BK453 hg; have NB467_453 := nbg BK453 hg; replace BK453 := bb BK453 hb; clear hb hbox hg; have hnb63 := NB467_428.out; have hnc63 := NB428_467.out; have hnb64 := NB467_429.out; have hnc64 := NB429_467.out; have hnb65 := NB467_441.out; have hnc65 := NB441_467.out; have hnb66 := NB467_453.out; have hnc66 := NB453_467.out; obtain ⟨hcz67_0, hcz67_1, hcz67_2, hcz67_3, hcz67_4, hcz67_5, hcz67_6, hcz67_7, hcz67_8, hcz67_9⟩ := cz10 BK467; obtain ⟨hfz67_0, hfz67_1, hfz67_2, hfz67_3, hfz67_4, hfz67_5, hfz67_6, hfz67_7, hfz67_8, hfz67_9⟩ := fz10 BK467; obtain ⟨hcz68_0, hcz68_1, hcz68_2, hcz68_3, hcz68_4, hcz68_5, hcz68_6, hcz68_7, hcz68_8, hcz68_9, hcz68_10, hcz68_11, hcz68_12, hcz68_13, hcz68_14, hcz68_15, hcz68_16, hcz68_17, hcz68_18, hcz68_19, hcz68_20, hcz68_21, hcz68_22, hcz68_23, hcz68_24, hcz68_25, hcz68_26, hcz68_27, hcz68_28, hcz68_29⟩ := cz30 BK429; obtain ⟨hfz68_0, hfz68_1, hfz68_2, hfz68_3, hfz68_4, hfz68_5, hfz68_6, hfz68_7, hfz68_8, hfz68_9, hfz68_10, hfz68_11, hfz68_12, hfz68_13, hfz68_14, hfz68_15, hfz68_16, hfz68_17, hfz68_18, hfz68_19, hfz68_20, hfz68_21, hfz68_22, hfz68_23, hfz68_24, hfz68_25, hfz68_26, hfz68_27, hfz68_28, hfz68_29⟩ := fz30 BK429; have hnb69 := NB453_428.out; have hnc69 := NB428_453.out; obtain ⟨hcz70_0, hcz70_1, hcz70_2, hcz70_3, hcz70_4, hcz70_5, hcz70_6, hcz70_7, hcz70_8, hcz70_9⟩ := cz10 BK453; obtain ⟨hfz70_0, hfz70_1, hfz70_2, hfz70_3, hfz70_4, hfz70_5, hfz70_6, hfz70_7, hfz70_8, hfz70_9⟩ := fz10 BK453) | ((with_reducible refine gate_callee (f := 14) rfl ?_); refine goesB (some 62) rfl rfl Try.func14 #[.agg #[.int .u16 a1_0, .int .u8 a1_1, .int .u8 a1_2, .int .u8 a1_3, .int .u8 a1_4, .int .i64 a1_5, .int .i64 a1_6, .int .i64 a1_7, .int .u8 a1_8, .int .i64 a1_9], .agg #[.int .u16 t442, .int .u8 t443, .int .u8 t444, .int .u8 t445, .int .u8 t446, .int .i64 t447, .int .i64 t448, .int .i64 t449, .int .u8 t450, .int .i64 t451]] rfl ?_; (with_reducible refine (style_Merge.calls a1_0 a1_1 a1_2 a1_3 a1_4 a1_5 a1_6 a1_7 a1_8 a1_9 t442 t443 t444 t445 t446 t447 t448 t449 t450 t451 t468 t469 t470 t471 t472 t473 t474 t475 t476 t477 t478 _ A34.out).mono ?_); rintro e w71 ⟨rfl, hb⟩; refine ⟨_, rfl, ?_⟩; replace BK428 := bb BK428 hb; replace BK429 := bb BK429 hb; replace BK441 := bb BK441 hb; replace BK453 := bb BK453 hb; replace BK467 := Aside0.mk (blk_below (o := .cells #[.int .u16 t456, .int .u8 t457, .int .u8 t458, .int .u8 t459, .int .u8 t460, .int .i64 t461, .int .i64 t462, .int .i64 t463, .int .u8 t464, .int .i64 t465] 26 (0, 0)) (bp BK467) hb); replace HB := bh HB hb; (try clear hb); (try clear hb2); (try clear hk); (try clear hi)) | ((with_reducible refine gate_dst (N := 11) rfl ?_); refine box_event ?hg (N := 11) ?hd (cs := #[.int .u16 0, .int .u8 0, .int .u8 0, .int .u8 0, .int .u8 0, .int .i64 0, .int .i64 0, .int .i64 0, .int .u8 0, .int .i64 0]) (t := 26) ?hr ?_; (case hd => rfl); (case hg => rfl); (case hr => first | (go_simp; done) | (go_simp; rfl)); intro gb479 hg w72 hbox hb; have BK479 := Aside0.mk (hbox); have GW479 := bge HB hg; have GE479 := bge HB hg; replace HB := bh HB hb; have NB428_479 := nbl BK428 hg; have NB479_428 := nbg BK428 hg; replace BK428 := bb BK428 hb; have NB429_479 := nbl BK429 hg; have NB479_429 := nbg BK429 hg; replace BK429 := bb BK429 hb; have NB441_479 := nbl BK441 hg; have NB479_441 := nbg BK441 hg; replace BK441 := bb BK441 hb; have NB453_479 := nbl BK453 hg; have NB479_453 := nbg BK453 hg; replace BK453 := bb BK453 hb; have NB467_479 := nbl BK467 hg; have NB479_467 := nbg BK467 hg; replace BK467 := bb BK467 hb; clear hb hbox hg; have hnb73 := NB479_428.out; have hnc73 := NB428_479.out; have hnb74 := NB479_429.out; have hnc74 := NB429_479.out; have hnb75 := NB479_441.out; have hnc75 := NB441_479.out; have hnb76 := NB479_453.out; have hnc76 := NB453_479.out; have hnb77 := NB479_467.out; have hnc77 := NB467_479.out; obtain ⟨hcz78_0, hcz78_1, hcz78_2, hcz78_3, hcz78_4, hcz78_5, hcz78_6, hcz78_7, hcz78_8, hcz78_9⟩ := cz10 BK479; obtain ⟨hfz78_0, hfz78_1, hfz78_2, hfz78_3, hfz78_4, hfz78_5, hfz78_6, hfz78_7, hfz78_8, hfz78_9⟩ := fz10 BK479; obtain ⟨hcz79_0, hcz79_1, hcz79_2, hcz79_3, hcz79_4, hcz79_5, hcz79_6, hcz79_7, hcz79_8⟩ := cz9 BK428; obtain ⟨hfz79_0, hfz79_1, hfz79_2, hfz79_3, hfz79_4, hfz79_5, hfz79_6, hfz79_7, hfz79_8⟩ := fz9 BK428; obtain ⟨hcz80_0, hcz80_1, hcz80_2, hcz80_3, hcz80_4, hcz80_5, hcz80_6, hcz80_7, hcz80_8, hcz80_9, hcz80_10, hcz80_11, hcz80_12, hcz80_13, hcz80_14, hcz80_15, hcz80_16, hcz80_17, hcz80_18, hcz80_19, hcz80_20, hcz80_21, hcz80_22, hcz80_23, hcz80_24, hcz80_25, hcz80_26, hcz80_27, hcz80_28, hcz80_29⟩ := cz30 BK429; obtain ⟨hfz80_0, hfz80_1, hfz80_2, hfz80_3, hfz80_4, hfz80_5, hfz80_6, hfz80_7, hfz80_8, hfz80_9, hfz80_10, hfz80_11, hfz80_12, hfz80_13, hfz80_14, hfz80_15, hfz80_16, hfz80_17, hfz80_18, hfz80_19, hfz80_20, hfz80_21, hfz80_22, hfz80_23, hfz80_24, hfz80_25, hfz80_26, hfz80_27, hfz80_28, hfz80_29⟩ := fz30 BK429) | ((with_reducible refine gate_callee (f := 12) rfl ?_); refine goesB (some 69) rfl rfl Try.func12 #[.agg #[.int .u8 a0_0, .int .u8 a0_1, .int .u8 a0_2, .int .u8 a0_3, .int .i64 a0_4, .int .i64 a0_5, .int .i64 a0_6, .int .u8 a0_7, .int .i64 a0_8], .agg #[.int .u16 a1_0, .int .u8 a1_1, .int .u8 a1_2, .int .u8 a1_3, .int .u8 a1_4, .int .i64 a1_5, .int .i64 a1_6, .int .i64 a1_7, .int .u8 a1_8, .int .i64 a1_9]] rfl ?_; (with_reducible refine (style_Resolve.calls a0_0 a0_1 a0_2 a0_3 a0_4 a0_5 a0_6 a0_7 a0_8 a1_0 a1_1 a1_2 a1_3 a1_4 a1_5 a1_6 a1_7 a1_8 a1_9 t480 t481 t482 t483 t484 t485 t486 t487 t488 t489 _ A35.out).mono ?_); rintro e w81 ⟨rfl, hb⟩; refine ⟨_, rfl, ?_⟩; replace BK428 := bb BK428 hb; replace BK429 := bb BK429 hb; replace BK441 := bb BK441 hb; replace BK453 := bb BK453 hb; replace BK467 := bb BK467 hb; replace BK479 := Aside0.mk (blk_below (o := .cells #[.int .u16 t468, .int .u8 t469, .int .u8 t470, .int .u8 t471, .int .u8 t472, .int .i64 t473, .int .i64 t474, .int .i64 t475, .int .u8 t476, .int .i64 t477] 26 (0, 0)) (bp BK479) hb); replace HB := bh HB hb; (try clear hb); (try clear hb2); (try clear hk); (try clear hi)) | ((with_reducible refine gate_dst (N := 13) rfl ?_); refine box_event ?hg (N := 13) ?hd (cs := #[.int .u8 0, .int .u8 0, .int .u8 0, .int .u8 0, .int .i64 0, .int .i64 0, .int .i64 0, .int .u8 0, .int .i64 0]) (t := 23) ?hr ?_; (case hd => rfl); (case hg => rfl); (case hr => first | (go_simp; done) | (go_simp; rfl)); intro gb490 hg w82 hbox hb; have BK490 := Aside0.mk (hbox); have GW490 := bge HB hg; have GE490 := bge HB hg; replace HB := bh HB hb; have NB428_490 := nbl BK428 hg; have NB490_428 := nbg BK428 hg; replace BK428 := bb BK428 hb; have NB429_490 := nbl BK429 hg; have NB490_429 := nbg BK429 hg; replace BK429 := bb BK429 hb; have NB441_490 := nbl BK441 hg; have NB490_441 := nbg BK441 hg; replace BK441 := bb BK441 hb; have NB453_490 := nbl BK453 hg; have NB490_453 := nbg BK453 hg; replace BK453 := bb BK453 hb; have NB467_490 := nbl BK467 hg; have NB490_467 := nbg BK467 hg; replace BK467 := bb BK467 hb; have NB479_490 := nbl BK479 hg; have NB490_479 := nbg BK479 hg; replace BK479 := bb BK479 hb; clear hb hbox hg; have hnb83 := NB490_428.out; have hnc83 := NB428_490.out; have hnb84 := NB490_429.out; have hnc84 := NB429_490.out; have hnb85 := NB490_441.out; have hnc85 := NB441_490.out; have hnb86 := NB490_453.out; have hnc86 := NB453_490.out; have hnb87 := NB490_467.out; have hnc87 := NB467_490.out; have hnb88 := NB490_479.out; have hnc88 := NB479_490.out; obtain ⟨hcz89_0, hcz89_1, hcz89_2, hcz89_3, hcz89_4, hcz89_5, hcz89_6, hcz89_7, hcz89_8⟩ := cz9 BK490; obtain ⟨hfz89_0, hfz89_1, hfz89_2, hfz89_3, hfz89_4, hfz89_5, hfz89_6, hfz89_7, hfz89_8⟩ := fz9 BK490; obtain ⟨hcz90_0, hcz90_1, hcz90_2, hcz90_3, hcz90_4, hcz90_5, hcz90_6, hcz90_7, hcz90_8, hcz90_9, hcz90_10, hcz90_11, hcz90_12, hcz90_13, hcz90_14, hcz90_15, hcz90_16, hcz90_17, hcz90_18, hcz90_19, hcz90_20, hcz90_21, hcz90_22, hcz90_23, hcz90_24, hcz90_25, hcz90_26, hcz90_27, hcz90_28, hcz90_29⟩ := cz30 BK429; obtain ⟨hfz90_0, hfz90_1, hfz90_2, hfz90_3, hfz90_4, hfz90_5, hfz90_6, hfz90_7, hfz90_8, hfz90_9, hfz90_10, hfz90_11, hfz90_12, hfz90_13, hfz90_14, hfz90_15, hfz90_16, hfz90_17, hfz90_18, hfz90_19, hfz90_20, hfz90_21, hfz90_22, hfz90_23, hfz90_24, hfz90_25, hfz90_26, hfz90_27, hfz90_28, hfz90_29⟩ := fz30 BK429) | ((with_reducible refine gate_callee (f := 12) rfl ?_); refine goesB (some 76) rfl rfl Try.func12 #[.agg #[.int .u8 t480, .int .u8 t481, .int .u8 t482, .int .u8 t483, .int .i64 t484, .int .i64 t485, .int .i64 t486, .int .u8 t487, .int .i64 t488], .agg #[.int .u16 a1_10, .int .u8 a1_11, .int .u8 a1_12, .int .u8 a1_13, .int .u8 a1_14, .int .i64 a1_15, .int .i64 a1_16, .int .i64 a1_17, .int .u8 a1_18, .int .i64 a1_19]] rfl ?_; (with_reducible refine (style_Resolve.calls t480 t481 t482 t483 t484 t485 t486 t487 t488 a1_10 a1_11 a1_12 a1_13 a1_14 a1_15 a1_16 a1_17 a1_18 a1_19 t491 t492 t493 t494 t495 t496 t497 t498 t499 t500 _ A36.out).mono ?_); rintro e w91 ⟨rfl, hb⟩; refine ⟨_, rfl, ?_⟩; replace BK428 := bb BK428 hb; replace BK429 := bb BK429 hb; replace BK441 := bb BK441 hb; replace BK453 := bb BK453 hb; replace BK467 := bb BK467 hb; replace BK479 := bb BK479 hb; replace BK490 := Aside0.mk (blk_below (o := .cells #[.int .u8 t480, .int .u8 t481, .int .u8 t482, .int .u8 t483, .int .i64 t484, .int .i64 t485, .int .i64 t486, .int .u8 t487, .int .i64 t488] 23 (0, 0)) (bp BK490) hb); replace HB := bh HB hb; (try clear hb); (try clear hb2); (try clear hk); (try clear hi)) | ((with_reducible refine gate_dst (N := 15) rfl ?_); refine box_event ?hg (N := 15) ?hd (cs := #[.int .u8 0, .int .u8 0, .int .u8 0, .int .u8 0, .int .i64 0, .int .i64 0, .int .i64 0, .int .u8 0, .int .i64 0]) (t := 23) ?hr ?_; (case hd => rfl); (case hg => rfl); (case hr => first | (go_simp; done) | (go_simp; rfl)); intro gb501 hg w92 hbox hb; have BK501 := Aside0.mk (hbox); have GW501 := bge HB hg; have GE501 := bge HB hg; replace HB := bh HB hb; have NB428_501 := nbl BK428 hg; have NB501_428 := nbg BK428 hg; replace BK428 := bb BK428 hb; have NB429_501 := nbl BK429 hg; have NB501_429 := nbg BK429 hg; replace BK429 := bb BK429 hb; have NB441_501 := nbl BK441 hg; have NB501_441 := nbg BK441 hg; replace BK441 := bb BK441 hb; have NB453_501 := nbl BK453 hg; have NB501_453 := nbg BK453 hg; replace BK453 := bb BK453 hb; have NB467_501 := nbl BK467 hg; have NB501_467 := nbg BK467 hg; replace BK467 := bb BK467 hb; have NB479_501 := nbl BK479 hg; have NB501_479 := nbg BK479 hg; replace BK479 := bb BK479 hb; have NB490_501 := nbl BK490 hg; have NB501_490 := nbg BK490 hg; replace BK490 := bb BK490 hb; clear hb hbox hg; have hnb93 := NB501_428.out; have hnc93 := NB428_501.out; have hnb94 := NB501_429.out; have hnc94 := NB429_501.out; have hnb95 := NB501_441.out; have hnc95 := NB441_501.out; have hnb96 := NB501_453.out; have hnc96 := NB453_501.out; have hnb97 := NB501_467.out; have hnc97 := NB467_501.out; have hnb98 := NB501_479.out; have hnc98 := NB479_501.out; have hnb99 := NB501_490.out; have hnc99 := NB490_501.out; obtain ⟨hcz100_0, hcz100_1, hcz100_2, hcz100_3, hcz100_4, hcz100_5, hcz100_6, hcz100_7, hcz100_8⟩ := cz9 BK501; obtain ⟨hfz100_0, hfz100_1, hfz100_2, hfz100_3, hfz100_4, hfz100_5, hfz100_6, hfz100_7, hfz100_8⟩ := fz9 BK501; obtain ⟨hcz101_0, hcz101_1, hcz101_2, hcz101_3, hcz101_4, hcz101_5, hcz101_6, hcz101_7, hcz101_8⟩ := cz9 BK428; obtain ⟨hfz101_0, hfz101_1, hfz101_2, hfz101_3, hfz101_4, hfz101_5, hfz101_6, hfz101_7, hfz101_8⟩ := fz9 BK428; obtain ⟨hcz102_0, hcz102_1, hcz102_2, hcz102_3, hcz102_4, hcz102_5, hcz102_6, hcz102_7, hcz102_8, hcz102_9⟩ := cz10 BK441; obtain ⟨hfz102_0, hfz102_1, hfz102_2, hfz102_3, hfz102_4, hfz102_5, hfz102_6, hfz102_7, hfz102_8, hfz102_9⟩ := fz10 BK441) | ((with_reducible refine gate_callee (f := 12) rfl ?_); refine goesB (some 82) rfl rfl Try.func12 #[.agg #[.int .u8 a0_0, .int .u8 a0_1, .int .u8 a0_2, .int .u8 a0_3, .int .i64 a0_4, .int .i64 a0_5, .int .i64 a0_6, .int .u8 a0_7, .int .i64 a0_8], .agg #[.int .u16 t430, .int .u8 t431, .int .u8 t432, .int .u8 t433, .int .u8 t434, .int .i64 t435, .int .i64 t436, .int .i64 t437, .int .u8 t438, .int .i64 t439]] rfl ?_; (with_reducible refine (style_Resolve.calls a0_0 a0_1 a0_2 a0_3 a0_4 a0_5 a0_6 a0_7 a0_8 t430 t431 t432 t433 t434 t435 t436 t437 t438 t439 t502 t503 t504 t505 t506 t507 t508 t509 t510 t511 _ A37.out).mono ?_); rintro e w103 ⟨rfl, hb⟩; refine ⟨_, rfl, ?_⟩; replace BK428 := bb BK428 hb; replace BK429 := bb BK429 hb; replace BK441 := bb BK441 hb; replace BK453 := bb BK453 hb; replace BK467 := bb BK467 hb; replace BK479 := bb BK479 hb; replace BK490 := bb BK490 hb; replace BK501 := Aside0.mk (blk_below (o := .cells #[.int .u8 t491, .int .u8 t492, .int .u8 t493, .int .u8 t494, .int .i64 t495, .int .i64 t496, .int .i64 t497, .int .u8 t498, .int .i64 t499] 23 (0, 0)) (bp BK501) hb); replace HB := bh HB hb; (try clear hb); (try clear hb2); (try clear hk); (try clear hi)) | ((with_reducible refine gate_dst (N := 17) rfl ?_); refine box_event ?hg (N := 17) ?hd (cs := #[.int .u8 0, .int .u8 0, .int .u8 0, .int .u8 0, .int .i64 0, .int .i64 0, .int .i64 0, .int .u8 0, .int .i64 0]) (t := 23) ?hr ?_; (case hd => rfl); (case hg => rfl); (case hr => first | (go_simp; done) | (go_simp; rfl)); intro gb512 hg w104 hbox hb; have BK512 := Aside0.mk (hbox); have GW512 := bge HB hg; have GE512 := bge HB hg; replace HB := bh HB hb; have NB428_512 := nbl BK428 hg; have NB512_428 := nbg BK428 hg; replace BK428 := bb BK428 hb; have NB429_512 := nbl BK429 hg; have NB512_429 := nbg BK429 hg; replace BK429 := bb BK429 hb; have NB441_512 := nbl BK441 hg; have NB512_441 := nbg BK441 hg; replace BK441 := bb BK441 hb; have NB453_512 := nbl BK453 hg; have NB512_453 := nbg BK453 hg; replace BK453 := bb BK453 hb; have NB467_512 := nbl BK467 hg; have NB512_467 := nbg BK467 hg; replace BK467 := bb BK467 hb; have NB479_512 := nbl BK479 hg; have NB512_479 := nbg BK479 hg; replace BK479 := bb BK479 hb; have NB490_512 := nbl BK490 hg; have NB512_490 := nbg BK490 hg; replace BK490 := bb BK490 hb; have NB501_512 := nbl BK501 hg; have NB512_501 := nbg BK501 hg; replace BK501 := bb BK501 hb; clear hb hbox hg; have hnb105 := NB512_428.out; have hnc105 := NB428_512.out; have hnb106 := NB512_429.out; have hnc106 := NB429_512.out; have hnb107 := NB512_441.out; have hnc107 := NB441_512.out; have hnb108 := NB512_453.out; have hnc108 := NB453_512.out; have hnb109 := NB512_467.out; have hnc109 := NB467_512.out; have hnb110 := NB512_479.out; have hnc110 := NB479_512.out; have hnb111 := NB512_490.out; have hnc111 := NB490_512.out; have hnb112 := NB512_501.out; have hnc112 := NB501_512.out; obtain ⟨hcz113_0, hcz113_1, hcz113_2, hcz113_3, hcz113_4, hcz113_5, hcz113_6, hcz113_7, hcz113_8⟩ := cz9 BK512; obtain ⟨hfz113_0, hfz113_1, hfz113_2, hfz113_3, hfz113_4, hfz113_5, hfz113_6, hfz113_7, hfz113_8⟩ := fz9 BK512; obtain ⟨hcz114_0, hcz114_1, hcz114_2, hcz114_3, hcz114_4, hcz114_5, hcz114_6, hcz114_7, hcz114_8, hcz114_9, hcz114_10, hcz114_11, hcz114_12, hcz114_13, hcz114_14, hcz114_15, hcz114_16, hcz114_17, hcz114_18, hcz114_19, hcz114_20, hcz114_21, hcz114_22, hcz114_23, hcz114_24, hcz114_25, hcz114_26, hcz114_27, hcz114_28, hcz114_29⟩ := cz30 BK429; obtain ⟨hfz114_0, hfz114_1, hfz114_2, hfz114_3, hfz114_4, hfz114_5, hfz114_6, hfz114_7, hfz114_8, hfz114_9, hfz114_10, hfz114_11, hfz114_12, hfz114_13, hfz114_14, hfz114_15, hfz114_16, hfz114_17, hfz114_18, hfz114_19, hfz114_20, hfz114_21, hfz114_22, hfz114_23, hfz114_24, hfz114_25, hfz114_26, hfz114_27, hfz114_28, hfz114_29⟩ := fz30 BK429) | ((with_reducible refine gate_callee (f := 14) rfl ?_); refine goesB (some 89) rfl rfl Try.func14 #[.agg #[.int .u16 a1_0, .int .u8 a1_1, .int .u8 a1_2, .int .u8 a1_3, .int .u8 a1_4, .int .i64 a1_5, .int .i64 a1_6, .int .i64 a1_7, .int .u8 a1_8, .int .i64 a1_9], .agg #[.int .u16 0, .int .u8 0, .int .u8 0, .int .u8 0, .int .u8 0, .int .i64 0, .int .i64 0, .int .i64 0, .int .u8 0, .int .i64 0]] rfl ?_; (with_reducible refine (style_Merge.calls a1_0 a1_1 a1_2 a1_3 a1_4 a1_5 a1_6 a1_7 a1_8 a1_9 0 0 0 0 0 0 0 0 0 0 t513 t514 t515 t516 t517 t518 t519 t520 t521 t522 t523 _ A38.out).mono ?_); rintro e w115 ⟨rfl, hb⟩; refine ⟨_, rfl, ?_⟩; replace BK428 := bb BK428 hb; replace BK429 := bb BK429 hb; replace BK441 := bb BK441 hb; replace BK453 := bb BK453 hb; replace BK467 := bb BK467 hb; replace BK479 := bb BK479 hb; replace BK490 := bb BK490 hb; replace BK501 := bb BK501 hb; replace BK512 := Aside0.mk (blk_below (o := .cells #[.int .u8 t502, .int .u8 t503, .int .u8 t504, .int .u8 t505, .int .i64 t506, .int .i64 t507, .int .i64 t508, .int .u8 t509, .int .i64 t510] 23 (0, 0)) (bp BK512) hb); replace HB := bh HB hb; (try clear hb); (try clear hb2); (try clear hk); (try clear hi)) | ((with_reducible refine gate_dst (N := 19) rfl ?_); refine box_event ?hg (N := 19) ?hd (cs := #[.int .u16 0, .int .u8 0, .int .u8 0, .int .u8 0, .int .u8 0, .int .i64 0, .int .i64 0, .int .i64 0, .int .u8 0, .int .i64 0]) (t := 26) ?hr ?_; (case hd => rfl); (case hg => rfl); (case hr => first | (go_simp; done) | (go_simp; rfl)); intro gb524 hg w116 hbox hb; have BK524 := Aside0.mk (hbox); have GW524 := bge HB hg; have GE524 := bge HB hg; replace HB := bh HB hb; have NB428_524 := nbl BK428 hg; have NB524_428 := nbg BK428 hg; replace BK428 := bb BK428 hb; have NB429_524 := nbl BK429 hg; have NB524_429 := nbg BK429 hg; replace BK429 := bb BK429 hb; have NB441_524 := nbl BK441 hg; have NB524_441 := nbg BK441 hg; replace BK441 := bb BK441 hb; have NB453_524 := nbl BK453 hg; have NB524_453 := nbg BK453 hg; replace BK453 := bb BK453 hb; have NB467_524 := nbl BK467 hg; have NB524_467 := nbg BK467 hg; replace BK467 := bb BK467 hb; have NB479_524 := nbl BK479 hg; have NB524_479 := nbg BK479 hg; replace BK479 := bb BK479 hb; have NB490_524 := nbl BK490 hg; have NB524_490 := nbg BK490 hg; replace BK490 := bb BK490 hb; have NB501_524 := nbl BK501 hg; have NB524_501 := nbg BK501 hg; replace BK501 := bb BK501 hb; have NB512_524 := nbl BK512 hg; have NB524_512 := nbg BK512 hg; replace BK512 := bb BK512 hb; clear hb hbox hg; have hnb117 := NB524_428.out; have hnc117 := NB428_524.out; have hnb118 := NB524_429.out; have hnc118 := NB429_524.out; have hnb119 := NB524_441.out; have hnc119 := NB441_524.out; have hnb120 := NB524_453.out; have hnc120 := NB453_524.out; have hnb121 := NB524_467.out; have hnc121 := NB467_524.out; have hnb122 := NB524_479.out; have hnc122 := NB479_524.out; have hnb123 := NB524_490.out; have hnc123 := NB490_524.out; have hnb124 := NB524_501.out; have hnc124 := NB501_524.out; have hnb125 := NB524_512.out; have hnc125 := NB512_524.out; obtain ⟨hcz126_0, hcz126_1, hcz126_2, hcz126_3, hcz126_4, hcz126_5, hcz126_6, hcz126_7, hcz126_8, hcz126_9⟩ := cz10 BK524; obtain ⟨hfz126_0, hfz126_1, hfz126_2, hfz126_3, hfz126_4, hfz126_5, hfz126_6, hfz126_7, hfz126_8, hfz126_9⟩ := fz10 BK524; obtain ⟨hcz127_0, hcz127_1, hcz127_2, hcz127_3, hcz127_4, hcz127_5, hcz127_6, hcz127_7, hcz127_8⟩ := cz9 BK428; obtain ⟨hfz127_0, hfz127_1, hfz127_2, hfz127_3, hfz127_4, hfz127_5, hfz127_6, hfz127_7, hfz127_8⟩ := fz9 BK428) | ((with_reducible refine gate_callee (f := 12) rfl ?_); refine goesB (some 95) rfl rfl Try.func12 #[.agg #[.int .u8 a0_0, .int .u8 a0_1, .int .u8 a0_2, .int .u8 a0_3, .int .i64 a0_4, .int .i64 a0_5, .int .i64 a0_6, .int .u8 a0_7, .int .i64 a0_8], .agg #[.int .u16 0, .int .u8 0, .int .u8 0, .int .u8 0, .int .u8 0, .int .i64 0, .int .i64 0, .int .i64 0, .int .u8 0, .int .i64 0]] rfl ?_; (with_reducible refine (style_Resolve.calls a0_0 a0_1 a0_2 a0_3 a0_4 a0_5 a0_6 a0_7 a0_8 0 0 0 0 0 0 0 0 0 0 t525 t526 t527 t528 t529 t530 t531 t532 t533 t534 _ A39.out).mono ?_); rintro e w128 ⟨rfl, hb⟩; refine ⟨_, rfl, ?_⟩; replace BK428 := bb BK428 hb; replace BK429 := bb BK429 hb; replace BK441 := bb BK441 hb; replace BK453 := bb BK453 hb; replace BK467 := bb BK467 hb; replace BK479 := bb BK479 hb; replace BK490 := bb BK490 hb; replace BK501 := bb BK501 hb; replace BK512 := bb BK512 hb; replace BK524 := Aside0.mk (blk_below (o := .cells #[.int .u16 t513, .int .u8 t514, .int .u8 t515, .int .u8 t516, .int .u8 t517, .int .i64 t518, .int .i64 t519, .int .i64 t520, .int .u8 t521, .int .i64 t522] 26 (0, 0)) (bp BK524) hb); replace HB := bh HB hb; (try clear hb); (try clear hb2); (try clear hk); (try clear hi)) | ((with_reducible refine gate_dst (N := 21) rfl ?_); refine box_event ?hg (N := 21) ?hd (cs := #[.int .u8 0, .int .u8 0, .int .u8 0, .int .u8 0, .int .i64 0, .int .i64 0, .int .i64 0, .int .u8 0, .int .i64 0]) (t := 23) ?hr ?_; (case hd => rfl); (case hg => rfl); (case hr => first | (go_simp; done) | (go_simp; rfl)); intro gb535 hg w129 hbox hb; have BK535 := Aside0.mk (hbox); have GW535 := bge HB hg; have GE535 := bge HB hg; replace HB := bh HB hb; have NB428_535 := nbl BK428 hg; have NB535_428 := nbg BK428 hg; replace BK428 := bb BK428 hb; have NB429_535 := nbl BK429 hg; have NB535_429 := nbg BK429 hg; replace BK429 := bb BK429 hb; have NB441_535 := nbl BK441 hg; have NB535_441 := nbg BK441 hg; replace BK441 := bb BK441 hb; have NB453_535 := nbl BK453 hg; have NB535_453 := nbg BK453 hg; replace BK453 := bb BK453 hb; have NB467_535 := nbl BK467 hg; have NB535_467 := nbg BK467 hg; replace BK467 := bb BK467 hb; have NB479_535 := nbl BK479 hg; have NB535_479 := nbg BK479 hg; replace BK479 := bb BK479 hb; have NB490_535 := nbl BK490 hg; have NB535_490 := nbg BK490 hg; replace BK490 := bb BK490 hb; have NB501_535 := nbl BK501 hg; have NB535_501 := nbg BK501 hg; replace BK501 := bb BK501 hb; have NB512_535 := nbl BK512 hg; have NB535_512 := nbg BK512 hg; replace BK512 := bb BK512 hb; have NB524_535 := nbl BK524 hg; have NB535_524 := nbg BK524 hg; replace BK524 := bb BK524 hb; clear hb hbox hg; have hnb130 := NB535_428.out; have hnc130 := NB428_535.out; have hnb131 := NB535_429.out; have hnc131 := NB429_535.out; have hnb132 := NB535_441.out; have hnc132 := NB441_535.out; have hnb133 := NB535_453.out; have hnc133 := NB453_535.out; have hnb134 := NB535_467.out; have hnc134 := NB467_535.out; have hnb135 := NB535_479.out; have hnc135 := NB479_535.out; have hnb136 := NB535_490.out; have hnc136 := NB490_535.out; have hnb137 := NB535_501.out; have hnc137 := NB501_535.out; have hnb138 := NB535_512.out; have hnc138 := NB512_535.out; have hnb139 := NB535_524.out; have hnc139 := NB524_535.out; obtain ⟨hcz140_0, hcz140_1, hcz140_2, hcz140_3, hcz140_4, hcz140_5, hcz140_6, hcz140_7, hcz140_8⟩ := cz9 BK535; obtain ⟨hfz140_0, hfz140_1, hfz140_2, hfz140_3, hfz140_4, hfz140_5, hfz140_6, hfz140_7, hfz140_8⟩ := fz9 BK535; obtain ⟨hcz141_0, hcz141_1, hcz141_2, hcz141_3, hcz141_4, hcz141_5, hcz141_6, hcz141_7, hcz141_8, hcz141_9⟩ := cz10 BK467; obtain ⟨hfz141_0, hfz141_1, hfz141_2, hfz141_3, hfz141_4, hfz141_5, hfz141_6, hfz141_7, hfz141_8, hfz141_9⟩ := fz10 BK467; obtain ⟨hcz142_0, hcz142_1, hcz142_2, hcz142_3, hcz142_4, hcz142_5, hcz142_6, hcz142_7, hcz142_8, hcz142_9⟩ := cz10 BK479; obtain ⟨hfz142_0, hfz142_1, hfz142_2, hfz142_3, hfz142_4, hfz142_5, hfz142_6, hfz142_7, hfz142_8, hfz142_9⟩ := fz10 BK479; obtain ⟨hcz143_0, hcz143_1, hcz143_2, hcz143_3, hcz143_4, hcz143_5, hcz143_6, hcz143_7, hcz143_8⟩ := cz9 BK501; obtain ⟨hfz143_0, hfz143_1, hfz143_2, hfz143_3, hfz143_4, hfz143_5, hfz143_6, hfz143_7, hfz143_8⟩ := fz9 BK501; obtain ⟨hcz144_0, hcz144_1, hcz144_2, hcz144_3, hcz144_4, hcz144_5, hcz144_6, hcz144_7, hcz144_8⟩ := cz9 BK512; obtain ⟨hfz144_0, hfz144_1, hfz144_2, hfz144_3, hfz144_4, hfz144_5, hfz144_6, hfz144_7, hfz144_8⟩ := fz9 BK512; obtain ⟨hcz145_0, hcz145_1, hcz145_2, hcz145_3, hcz145_4, hcz145_5, hcz145_6, hcz145_7, hcz145_8, hcz145_9⟩ := cz10 BK524; obtain ⟨hfz145_0, hfz145_1, hfz145_2, hfz145_3, hfz145_4, hfz145_5, hfz145_6, hfz145_7, hfz145_8, hfz145_9⟩ := fz10 BK524; obtain ⟨hcz146_0, hcz146_1, hcz146_2, hcz146_3, hcz146_4, hcz146_5, hcz146_6, hcz146_7, hcz146_8, hcz146_9, hcz146_10, hcz146_11, hcz146_12, hcz146_13, hcz146_14, hcz146_15, hcz146_16, hcz146_17, hcz146_18, hcz146_19, hcz146_20, hcz146_21, hcz146_22, hcz146_23, hcz146_24, hcz146_25, hcz146_26, hcz146_27, hcz146_28, hcz146_29⟩ := cz30 BK429; obtain ⟨hfz146_0, hfz146_1, hfz146_2, hfz146_3, hfz146_4, hfz146_5, hfz146_6, hfz146_7, hfz146_8, hfz146_9, hfz146_10, hfz146_11, hfz146_12, hfz146_13, hfz146_14, hfz146_15, hfz146_16, hfz146_17, hfz146_18, hfz146_19, hfz146_20, hfz146_21, hfz146_22, hfz146_23, hfz146_24, hfz146_25, hfz146_26, hfz146_27, hfz146_28, hfz146_29⟩ := fz30 BK429; obtain ⟨hcz147_0, hcz147_1, hcz147_2, hcz147_3, hcz147_4, hcz147_5, hcz147_6, hcz147_7, hcz147_8⟩ := cz9 BK428; obtain ⟨hfz147_0, hfz147_1, hfz147_2, hfz147_3, hfz147_4, hfz147_5, hfz147_6, hfz147_7, hfz147_8⟩ := fz9 BK428) | (go_at_call 16; (with_reducible refine (style_Check.calls t491 t492 t493 t494 t495 t496 t497 t498 t499 t536 _ A51.out).mono ?_); rintro e w148 ⟨rfl, hb⟩; replace BK428 := bb BK428 hb; replace BK429 := bb BK429 hb; replace BK441 := bb BK441 hb; replace BK453 := bb BK453 hb; replace BK467 := bb BK467 hb; replace BK479 := bb BK479 hb; replace BK490 := bb BK490 hb; replace BK501 := bb BK501 hb; replace BK512 := bb BK512 hb; replace BK524 := bb BK524 hb; replace BK535 := Aside0.mk (blk_below (o := .cells #[.int .u8 t525, .int .u8 t526, .int .u8 t527, .int .u8 t528, .int .i64 t529, .int .i64 t530, .int .i64 t531, .int .u8 t532, .int .i64 t533] 23 (0, 0)) (bp BK535) hb); replace HB := bh HB hb; (try clear hb); (try clear hb2); (try clear hk); (try clear hi)) | (go_at_call 22; (with_reducible refine (stickfullaw06_head.calls kj4  t537 _ A53.out).mono ?_); rintro e w149 ⟨rfl, hb⟩; replace BK428 := bb BK428 hb; replace BK429 := bb BK429 hb; replace BK441 := bb BK441 hb; replace BK453 := bb BK453 hb; replace BK467 := bb BK467 hb; replace BK479 := bb BK479 hb; replace BK490 := bb BK490 hb; replace BK501 := bb BK501 hb; replace BK512 := bb BK512 hb; replace BK524 := bb BK524 hb; replace BK535 := bb BK535 hb; replace HB := bh HB hb; (try clear hb); (try clear hb2); (try clear hk); (try clear hi)))
                                go_ret
                                exact ⟨by first | rfl | (simp [errW_none, errW_some] <;> rfl) | (simp [*, errW_none, errW_some] <;> rfl), by repeat (first | (with_reducible first | exact HB.out | apply below_alloc | apply pw_below_drewN | apply below_drew1 | refine below_set ?_ GE428.out | refine below_set ?_ GE429.out | refine below_set ?_ GE441.out | refine below_set ?_ GE453.out | refine below_set ?_ GE467.out | refine below_set ?_ GE479.out | refine below_set ?_ GE490.out | refine below_set ?_ GE501.out | refine below_set ?_ GE512.out | refine below_set ?_ GE524.out | refine below_set ?_ GE535.out) | exact HB.out)⟩
                              · rw [if_neg c52] at H
                                have c52b0 : (t536 == 0) = false := beq_eq_false_iff_ne.mpr c52
                                have c52b1 : (t536 != 0) = true := bne_iff_ne.mpr c52
                                exact absurd ((Option.some.inj H).trans HR_.out) (by decide)
                            · rw [if_neg c50] at H
                              have c50b0 : (t534 == 0) = false := beq_eq_false_iff_ne.mpr c50
                              have c50b1 : (t534 != 0) = true := bne_iff_ne.mpr c50
                              exact absurd ((Option.some.inj H).trans HR_.out) (by decide)
                          · rw [if_neg c49] at H
                            have c49b0 : (t525 == a0_0 && (t526 == a0_1 && (t527 == a0_2 && (t528 == a0_3 && (t529 == a0_4 && (t530 == a0_5 && (t531 == a0_6 && (t532 == a0_7 && (t533 == a0_8))))))))) = false := by simpa using c49
                            (try (have c49b1 : decide (t525 = a0_0 && (t526 == a0_1 && (t527 == a0_2 && (t528 == a0_3 && (t529 == a0_4 && (t530 == a0_5 && (t531 == a0_6 && (t532 == a0_7 && (t533 == a0_8))))))))) = false := by simpa using c49))
                            (try (have c49b2 : (t525 == a0_0 && (t526 == a0_1 && (t527 == a0_2 && (t528 == a0_3 && (t529 == a0_4 && (t530 == a0_5 && (t531 == a0_6 && (t532 == a0_7 && (t533 == a0_8))))))))) = false := by simpa using c49))
                            (try (have c49b3 : ¬ (t525 = a0_0 && (t526 == a0_1 && (t527 == a0_2 && (t528 == a0_3 && (t529 == a0_4 && (t530 == a0_5 && (t531 == a0_6 && (t532 == a0_7 && (t533 == a0_8))))))))) := by simpa using c49))
                            clear c49
                            exact absurd ((Option.some.inj H).trans HR_.out) (by decide)
                        · rw [if_neg c48] at H
                          have c48b0 : (t523 == 0) = false := beq_eq_false_iff_ne.mpr c48
                          have c48b1 : (t523 != 0) = true := bne_iff_ne.mpr c48
                          exact absurd ((Option.some.inj H).trans HR_.out) (by decide)
                      · rw [if_neg c47] at H
                        have c47b0 : (t513 == a1_0 && ((t514 == a1_1 && (t515 == a1_2 && (t516 == a1_3 && (t517 == a1_4 && (t518 == a1_5 && (t519 == a1_6 && (t520 == a1_7 && (t521 == a1_8 && (t522 == a1_9))))))))))) = false := by simpa using c47
                        (try (have c47b1 : decide (t513 = a1_0 && ((t514 == a1_1 && (t515 == a1_2 && (t516 == a1_3 && (t517 == a1_4 && (t518 == a1_5 && (t519 == a1_6 && (t520 == a1_7 && (t521 == a1_8 && (t522 == a1_9))))))))))) = false := by simpa using c47))
                        (try (have c47b2 : (t513 == a1_0 && ((t514 == a1_1 && (t515 == a1_2 && (t516 == a1_3 && (t517 == a1_4 && (t518 == a1_5 && (t519 == a1_6 && (t520 == a1_7 && (t521 == a1_8 && (t522 == a1_9))))))))))) = false := by simpa using c47))
                        (try (have c47b3 : ¬ (t513 = a1_0 && ((t514 == a1_1 && (t515 == a1_2 && (t516 == a1_3 && (t517 == a1_4 && (t518 == a1_5 && (t519 == a1_6 && (t520 == a1_7 && (t521 == a1_8 && (t522 == a1_9))))))))))) := by simpa using c47))
                        clear c47
                        exact absurd ((Option.some.inj H).trans HR_.out) (by decide)
                    · rw [if_neg c46] at H
                      have c46b0 : (t491 == t502 && (t492 == t503 && (t493 == t504 && (t494 == t505 && (t495 == t506 && (t496 == t507 && (t497 == t508 && (t498 == t509 && (t499 == t510))))))))) = false := by simpa using c46
                      (try (have c46b1 : decide (t491 = t502 && (t492 == t503 && (t493 == t504 && (t494 == t505 && (t495 == t506 && (t496 == t507 && (t497 == t508 && (t498 == t509 && (t499 == t510))))))))) = false := by simpa using c46))
                      (try (have c46b2 : (t491 == t502 && (t492 == t503 && (t493 == t504 && (t494 == t505 && (t495 == t506 && (t496 == t507 && (t497 == t508 && (t498 == t509 && (t499 == t510))))))))) = false := by simpa using c46))
                      (try (have c46b3 : ¬ (t491 = t502 && (t492 == t503 && (t493 == t504 && (t494 == t505 && (t495 == t506 && (t496 == t507 && (t497 == t508 && (t498 == t509 && (t499 == t510))))))))) := by simpa using c46))
                      clear c46
                      exact absurd ((Option.some.inj H).trans HR_.out) (by decide)
                  · rw [if_neg c45] at H
                    have c45b0 : (t511 == 0) = false := beq_eq_false_iff_ne.mpr c45
                    have c45b1 : (t511 != 0) = true := bne_iff_ne.mpr c45
                    exact absurd ((Option.some.inj H).trans HR_.out) (by decide)
                · rw [if_neg c44] at H
                  have c44b0 : (t500 == 0) = false := beq_eq_false_iff_ne.mpr c44
                  have c44b1 : (t500 != 0) = true := bne_iff_ne.mpr c44
                  exact absurd ((Option.some.inj H).trans HR_.out) (by decide)
              · rw [if_neg c43] at H
                have c43b0 : (t489 == 0) = false := beq_eq_false_iff_ne.mpr c43
                have c43b1 : (t489 != 0) = true := bne_iff_ne.mpr c43
                exact absurd ((Option.some.inj H).trans HR_.out) (by decide)
            · rw [if_neg c42] at H
              have c42b0 : (t478 == 0) = false := beq_eq_false_iff_ne.mpr c42
              have c42b1 : (t478 != 0) = true := bne_iff_ne.mpr c42
              exact absurd ((Option.some.inj H).trans HR_.out) (by decide)
          · rw [if_neg c41] at H
            have c41b0 : (t466 == 0) = false := beq_eq_false_iff_ne.mpr c41
            have c41b1 : (t466 != 0) = true := bne_iff_ne.mpr c41
            exact absurd ((Option.some.inj H).trans HR_.out) (by decide)
        · rw [if_neg c40] at H
          have c40b0 : (t456 == t468 && ((t457 == t469 && (t458 == t470 && (t459 == t471 && (t460 == t472 && (t461 == t473 && (t462 == t474 && (t463 == t475 && (t464 == t476 && (t465 == t477))))))))))) = false := by simpa using c40
          (try (have c40b1 : decide (t456 = t468 && ((t457 == t469 && (t458 == t470 && (t459 == t471 && (t460 == t472 && (t461 == t473 && (t462 == t474 && (t463 == t475 && (t464 == t476 && (t465 == t477))))))))))) = false := by simpa using c40))
          (try (have c40b2 : (t456 == t468 && ((t457 == t469 && (t458 == t470 && (t459 == t471 && (t460 == t472 && (t461 == t473 && (t462 == t474 && (t463 == t475 && (t464 == t476 && (t465 == t477))))))))))) = false := by simpa using c40))
          (try (have c40b3 : ¬ (t456 = t468 && ((t457 == t469 && (t458 == t470 && (t459 == t471 && (t460 == t472 && (t461 == t473 && (t462 == t474 && (t463 == t475 && (t464 == t476 && (t465 == t477))))))))))) := by simpa using c40))
          clear c40
          exact absurd ((Option.some.inj H).trans HR_.out) (by decide)

-- NOT PRINTED: function 6 (stickfullaw06_StyleInherits)

end Go.Proofs.Ytahpkfmgeifenaa.HStyle
