-- Written by this claim's own program over the kit's print.
import Derived.Test.YtkegnlidlabjeaaHIntrb
import Derived.Test.YtkegnlidlabjeaaHIntrx0
import Derived.Test.YtkegnlidlabjeaaHIntrx14
import Derived.Test.YtkegnlidlabjeaaHIntrx15
import Derived.Test.YtkegnlidlabjeaaHand3
import Derived.Test.YtkegnlidlabjeaaHand4
import Derived.StillTailTactics
import Derived.Laws.Externs
import Derived.BigFrameIn
import Derived.Lib.Hide
import Derived.Test.YtkegnlidlabjeaaHand8
import Derived.Sort.LoopGhostIn
import Derived.BigQuiet
namespace Go.Proofs.Ytkegnlidlabjeaa.HIntr
open Go.RowKit Go.Proofs.YtkegnlidlabjeaaW.PrintWords Go.Proofs.YtkegnlidlabjeaaW.PrintLast Go.Proofs.YtkegnlidlabjeaaW.PrintMore Go.Proofs.Ytkegnlidlabjeaa.Hand
attribute [local go_sem] max2_int min2_int max_two min_two max_three min_three max_four min_four   -- for this text's walks alone
set_option linter.unusedVariables false
set_option linter.unusedSimpArgs false

/-! ### stickfullaw21_IntrinsicGrows: function 7 -/
mutual
def stickfullaw21_IntrinsicGrows.j0 : Nat → List (S35) → List (S35) → Bool → Option (Bool)
  | 0, _, _, _ => none
  | k + 1, x0, x1, x25 => if x25 = true then ((stickfullaw21_head.f k).bind fun t356 => (some t356)) else ((intrinsic_MinMax.f x0).bind fun bt357 => (if bt357.2.2 = 0 then ((some (([] : List (S35)) : List (S35))).bind fun y361 => (if y361.length + x0.length < 3518437208883 then ((some (y361 ++ x0 : List (S35))).bind fun y364 => (if y364.length < 3518437208883 then ((some (y364 ++ [(⟨5, 0, 0, 0, false, false⟩ : S35)] : List (S35))).bind fun y367 => (if y367.length + x1.length < 3518437208883 then ((intrinsic_MinMax.f (y367 ++ x1)).bind fun bt373 => (stickfullaw21_IntrinsicGrows.l0 k x0 bt357.1 bt357.2.1 bt373.1 bt373.2.1 bt373.2.2 ([] : List (S35)) 0)) else (none))) else (none))) else (none))) else (if bt357.1 = 0 then (if bt357.2.1 = 0 then ((stickfullaw21_head.f k).bind fun t360 => (some t360)) else (some false)) else (some false))))
def stickfullaw21_IntrinsicGrows.l0 : Nat → List (S35) → Int → Int → Int → Int → Int → List (S35) → Int → Option (Bool)
  | 0, _, _, _, _, _, _, _, _ => none
  | k + 1, x0, x5, x6, x9, x10, x11, x12, x13 => if x13 < (x0.length : Int) then (if 0 ≤ x13 then (if x12.length < 3518437208883 then (stickfullaw21_IntrinsicGrows.l0 k x0 x5 x6 x9 x10 x11 (x12 ++ [(⟨(rd_T35 x0 x13).f0, (rd_T35 x0 x13).f1, (rd_T35 x0 x13).f2, (rd_T35 x0 x13).f3, false, false⟩ : S35)]) (wrap64 (x13 + 1))) else (none)) else (none)) else ((intrinsic_MinMax.f x12).bind fun bt381 => (if x5 ≥ 0 then (if x5 ≤ x6 then (if x11 = 0 then (if x9 ≥ x5 then (if x10 ≥ x6 then (if bt381.2.2 = 0 then (if bt381.1 = bt381.2.1 then ((stickfullaw21_head.f k).bind fun t384 => (some t384)) else (some false)) else ((stickfullaw21_head.f k).bind fun t385 => (some t385))) else (some false)) else (some false)) else (if bt381.2.2 = 0 then (if bt381.1 = bt381.2.1 then ((stickfullaw21_head.f k).bind fun t386 => (some t386)) else (some false)) else ((stickfullaw21_head.f k).bind fun t387 => (some t387)))) else (some false)) else (some false)))
end
def stickfullaw21_IntrinsicGrows.f (k : Nat) (l0 : List (S35)) (l1 : List (S35)) : Option (Bool) := if (l0.length : Int) > 60 then (stickfullaw21_IntrinsicGrows.j0 k l0 l1 true) else (stickfullaw21_IntrinsicGrows.j0 k l0 l1 (decide ((l1.length : Int) > 60)))
theorem stickfullaw21_IntrinsicGrows.mono_l : ∀ k, (∀ y0 y1 y2, LeO (stickfullaw21_IntrinsicGrows.j0 k y0 y1 y2) (stickfullaw21_IntrinsicGrows.j0 (k + 1) y0 y1 y2)) ∧ (∀ y0 y1 y2 y3 y4 y5 y6 y7, LeO (stickfullaw21_IntrinsicGrows.l0 k y0 y1 y2 y3 y4 y5 y6 y7) (stickfullaw21_IntrinsicGrows.l0 (k + 1) y0 y1 y2 y3 y4 y5 y6 y7))
  | 0 => ⟨fun _ _ _ r h => by simp [stickfullaw21_IntrinsicGrows.j0] at h, fun _ _ _ _ _ _ _ _ r h => by simp [stickfullaw21_IntrinsicGrows.l0] at h⟩
  | k + 1 => by
    obtain ⟨ih0, ih1⟩ := stickfullaw21_IntrinsicGrows.mono_l k
    refine ⟨?_, ?_⟩
    · intro y0 y1 y2
      unfold stickfullaw21_IntrinsicGrows.j0
      repeat' first
      | (with_reducible exact ih0 _ _ _)
      | (with_reducible exact ih1 _ _ _ _ _ _ _ _)
      | (with_reducible exact stickfullaw21_head.mono _)
      | (with_reducible exact LeO.refl _)
      | (with_reducible exact LeO.none _)
      | (with_reducible refine LeO.ite ?_ ?_)
      | (with_reducible refine LeO.bind ?_ (fun _ => ?_))
      | exact ih0 _ _ _
      | exact ih1 _ _ _ _ _ _ _ _
      | exact stickfullaw21_head.mono _
      | exact LeO.none _
      | refine LeO.ite ?_ ?_
      | refine LeO.bind ?_ (fun _ => ?_)
    · intro y0 y1 y2 y3 y4 y5 y6 y7
      unfold stickfullaw21_IntrinsicGrows.l0
      repeat' first
      | (with_reducible exact ih0 _ _ _)
      | (with_reducible exact ih1 _ _ _ _ _ _ _ _)
      | (with_reducible exact stickfullaw21_head.mono _)
      | (with_reducible exact LeO.refl _)
      | (with_reducible exact LeO.none _)
      | (with_reducible refine LeO.ite ?_ ?_)
      | (with_reducible refine LeO.bind ?_ (fun _ => ?_))
      | exact ih0 _ _ _
      | exact ih1 _ _ _ _ _ _ _ _
      | exact stickfullaw21_head.mono _
      | exact LeO.none _
      | refine LeO.ite ?_ ?_
      | refine LeO.bind ?_ (fun _ => ?_)
theorem stickfullaw21_IntrinsicGrows.mono : ∀ a0 a1 k, LeO (stickfullaw21_IntrinsicGrows.f k a0 a1) (stickfullaw21_IntrinsicGrows.f (k + 1) a0 a1) := by
  intro a0 a1 k
  obtain ⟨ih0, ih1⟩ := stickfullaw21_IntrinsicGrows.mono_l k
  unfold stickfullaw21_IntrinsicGrows.f
  repeat' first
      | (with_reducible exact ih0 _ _ _)
      | (with_reducible exact ih1 _ _ _ _ _ _ _ _)
      | (with_reducible exact stickfullaw21_head.mono _)
      | (with_reducible exact LeO.refl _)
      | (with_reducible exact LeO.none _)
      | (with_reducible refine LeO.ite ?_ ?_)
      | (with_reducible refine LeO.bind ?_ (fun _ => ?_))
      | exact ih0 _ _ _
      | exact ih1 _ _ _ _ _ _ _ _
      | exact stickfullaw21_head.mono _
      | exact LeO.none _
      | refine LeO.ite ?_ ?_
      | refine LeO.bind ?_ (fun _ => ?_)
set_option maxHeartbeats 8000000 in
set_option maxRecDepth 100000 in
theorem stickfullaw21_IntrinsicGrows.calls_t (k : Nat) (A0 : Option Addr) (c0 : Nat) (l0 : List (S35)) (A1 : Option Addr) (c1 : Nat) (l1 : List (S35)) (r : Bool) (w : World) (hr0 : Kd.C k35 w A0 l0.length l0) (hc0 : l0.length ≤ c0) (hr1 : Kd.C k35 w A1 l1.length l1) (hc1 : l1.length ≤ c1) (h : stickfullaw21_IntrinsicGrows.f k l0 l1 = some r) (hr_ : r = true) :
    Calls Try.prog 7 #[.slice A0 l0.length c0, .slice A1 l1.length c1] w fun e w' => e = .returned (.bool r) ∧ Below w.heap.size w w' := by
  have hu35 := Try.underlying35
  have HR_ := Aside0.mk hr_
  clear hr_
  have HR0 := Aside0.mk hr0
  have HC0 := Aside0.mk hc0
  clear hr0 hc0
  have HR1 := Aside0.mk hr1
  have HC1 := Aside0.mk hc1
  clear hr1 hc1
  have HB := Aside0.mk (Below.refl w.heap.size w)
  have H : (if (l0.length : Int) > 60 then (stickfullaw21_IntrinsicGrows.j0 k l0 l1 true) else (stickfullaw21_IntrinsicGrows.j0 k l0 l1 (decide ((l1.length : Int) > 60)))) = some r := h
  clear h
  have HC3 := Aside0.mk H
  clear H
  go_enter Try.func7, Try.ntmps7
  go_upto_region 1 with (fail)
  go_cut [25] (fun v25 wc => ∃ (kq : Nat) (x25_2 : Bool), v25 = .bool x25_2 ∧ Aside0 (stickfullaw21_IntrinsicGrows.j0 kq l0 l1 x25_2 = some r) ∧ Aside0 (kq ≤ k) ∧ Aside0 (Below w.heap.size w wc))
  case first =>
    have H := HC3.out
    clear HC3
    by_cases c4 : (l0.length : Int) > 60
    · rw [if_pos c4] at H
      have c4b0 : decide (60 < (l0.length : Int)) = true := decide_eq_true c4
      have c4b1 : decide (60 < l0.length) = true := decide_eq_true (by omega)
      clear c4
      (first | rw [c4b0] | (simp only [i64_w, i32_w]; rw [c4b0]) | skip)
      have H' := Aside0.mk H
      clear H
      go_wp2
      go_meet
      case rel => exact ⟨_, (true), (by first | rfl | (simp; done) | (simp [*]; done)), H', ⟨by first | omega | exact Nat.le_refl _⟩, ⟨by repeat (first | (with_reducible first | exact HB.out | apply below_alloc | apply pw_below_drewN | apply below_drew1) | exact HB.out)⟩⟩
    · rw [if_neg c4] at H
      have c4b0 : decide (60 < (l0.length : Int)) = false := decide_eq_false c4
      have c4b1 : decide (60 < l0.length) = false := decide_eq_false (by omega)
      clear c4
      (first | rw [c4b0] | (simp only [i64_w, i32_w]; rw [c4b0]) | skip)
      have H' := Aside0.mk H
      clear H
      go_wp2
      go_meet
      case rel => exact ⟨_, (decide ((l1.length : Int) > 60)), (by first | rfl | (simp; done) | (simp [*]; done)), H', ⟨by first | omega | exact Nat.le_refl _⟩, ⟨by repeat (first | (with_reducible first | exact HB.out | apply below_alloc | apply pw_below_drewN | apply below_drew1) | exact HB.out)⟩⟩
  case rest =>
    clear HC3
    try clear c1
    try clear p2
    try clear c4
    try clear c4b0
    try clear c4b1
    obtain ⟨kq, x25_2, rfl, HA, HJ2, HB⟩ := hcut
    cases kq with
    | zero => exact absurd HA.out (by simp [stickfullaw21_IntrinsicGrows.j0])
    | succ kj2 =>
      have H := HA.out
      clear HA
      simp only [stickfullaw21_IntrinsicGrows.j0] at H
      by_cases c5 : x25_2 = true
      · subst c5
        have H1 : ((stickfullaw21_head.f kj2).bind fun t356 => (some t356)) = some r := by rw [if_pos rfl] at H; exact H
        clear H
        have H := H1
        clear H1
        replace H := Option.bind_eq_some_iff.mp H
        obtain ⟨t356, A60, H⟩ := H
        replace H : (some t356) = some r := H
        have A6 := Aside0.mk A60
        clear A60
        obtain rfl := Option.some.inj H
        go_wp2_with (first | ((with_reducible refine gate_callee (f := 24) rfl ?_); refine goesB (some 26) rfl rfl Try.func24 #[] rfl ?_; (with_reducible refine (stickfullaw21_head.calls kj2  t356 _ A6.out).mono ?_); rintro e w7 ⟨rfl, hb⟩; refine ⟨_, rfl, ?_⟩; replace HB := bh HB hb; (try clear hb); (try clear hb2); (try clear hk); (try clear hi)))
        go_ret
        exact ⟨by first | rfl | (simp [errW_none, errW_some] <;> rfl) | (simp [*, errW_none, errW_some] <;> rfl), by repeat (first | (with_reducible first | exact HB.out | apply below_alloc | apply pw_below_drewN | apply below_drew1) | exact HB.out)⟩
      · replace c5 := Bool.eq_false_iff.mpr c5
        subst c5
        have H1 : ((intrinsic_MinMax.f l0).bind fun bt357 => (if bt357.2.2 = 0 then ((some (([] : List (S35)) : List (S35))).bind fun y361 => (if y361.length + l0.length < 3518437208883 then ((some (y361 ++ l0 : List (S35))).bind fun y364 => (if y364.length < 3518437208883 then ((some (y364 ++ [(⟨5, 0, 0, 0, false, false⟩ : S35)] : List (S35))).bind fun y367 => (if y367.length + l1.length < 3518437208883 then ((intrinsic_MinMax.f (y367 ++ l1)).bind fun bt373 => (stickfullaw21_IntrinsicGrows.l0 kj2 l0 bt357.1 bt357.2.1 bt373.1 bt373.2.1 bt373.2.2 ([] : List (S35)) 0)) else (none))) else (none))) else (none))) else (if bt357.1 = 0 then (if bt357.2.1 = 0 then ((stickfullaw21_head.f kj2).bind fun t360 => (some t360)) else (some false)) else (some false)))) = some r := by rw [if_neg (show ¬ (false = true) by decide)] at H; exact H
        clear H
        have H := H1
        clear H1
        replace H := Option.bind_eq_some_iff.mp H
        obtain ⟨⟨t357, t358, t359⟩, A80, H⟩ := H
        replace H : (if t359 = 0 then ((some (([] : List (S35)) : List (S35))).bind fun y361 => (if y361.length + l0.length < 3518437208883 then ((some (y361 ++ l0 : List (S35))).bind fun y364 => (if y364.length < 3518437208883 then ((some (y364 ++ [(⟨5, 0, 0, 0, false, false⟩ : S35)] : List (S35))).bind fun y367 => (if y367.length + l1.length < 3518437208883 then ((intrinsic_MinMax.f (y367 ++ l1)).bind fun bt373 => (stickfullaw21_IntrinsicGrows.l0 kj2 l0 t357 t358 bt373.1 bt373.2.1 bt373.2.2 ([] : List (S35)) 0)) else (none))) else (none))) else (none))) else (if t357 = 0 then (if t358 = 0 then ((stickfullaw21_head.f kj2).bind fun t360 => (some t360)) else (some false)) else (some false))) = some r := H
        have A8 := Aside0.mk A80
        clear A80
        by_cases c9 : t359 = 0
        · rw [if_pos c9] at H
          have c9b0 : (t359 == 0) = true := beq_iff_eq.mpr c9
          have c9b1 : (t359 != 0) = false := bne_eq_false_iff_eq.mpr c9
          clear c9
          obtain ⟨y361, hy361⟩ : ∃ y_ : List (S35), y_ = (([] : List (S35))) := ⟨_, rfl⟩
          replace H : (if y361.length + l0.length < 3518437208883 then ((some (y361 ++ l0 : List (S35))).bind fun y364 => (if y364.length < 3518437208883 then ((some (y364 ++ [(⟨5, 0, 0, 0, false, false⟩ : S35)] : List (S35))).bind fun y367 => (if y367.length + l1.length < 3518437208883 then ((intrinsic_MinMax.f (y367 ++ l1)).bind fun bt373 => (stickfullaw21_IntrinsicGrows.l0 kj2 l0 t357 t358 bt373.1 bt373.2.1 bt373.2.2 ([] : List (S35)) 0)) else (none))) else (none))) else (none)) = some r := by first | (rw [hy361]; with_reducible exact H) | (have H2_ := (Option.bind_some _ _).symm.trans H; rw [hy361]; with_reducible exact H2_) | (have H2_ := (Option.bind_some _ _).symm.trans H; with_reducible exact H2_) | with_reducible exact H | (rw [hy361]; exact H) | exact H
          have Ny361 := Aside0.mk hy361
          clear hy361
          by_cases c10 : y361.length + l0.length < 3518437208883
          · rw [if_pos c10] at H
            have LMc10 := Aside0.mk c10
            clear c10
            obtain ⟨y364, hy364⟩ : ∃ y_ : List (S35), y_ = (y361 ++ l0) := ⟨_, rfl⟩
            replace H : (if y364.length < 3518437208883 then ((some (y364 ++ [(⟨5, 0, 0, 0, false, false⟩ : S35)] : List (S35))).bind fun y367 => (if y367.length + l1.length < 3518437208883 then ((intrinsic_MinMax.f (y367 ++ l1)).bind fun bt373 => (stickfullaw21_IntrinsicGrows.l0 kj2 l0 t357 t358 bt373.1 bt373.2.1 bt373.2.2 ([] : List (S35)) 0)) else (none))) else (none)) = some r := by first | (rw [hy364]; with_reducible exact H) | (have H2_ := (Option.bind_some _ _).symm.trans H; rw [hy364]; with_reducible exact H2_) | (have H2_ := (Option.bind_some _ _).symm.trans H; with_reducible exact H2_) | with_reducible exact H | (rw [hy364]; exact H) | exact H
            have Ny364 := Aside0.mk hy364
            clear hy364
            by_cases c11 : y364.length < 3518437208883
            · rw [if_pos c11] at H
              have LMc11 := Aside0.mk c11
              clear c11
              obtain ⟨y367, hy367⟩ : ∃ y_ : List (S35), y_ = (y364 ++ [(⟨5, 0, 0, 0, false, false⟩ : S35)]) := ⟨_, rfl⟩
              replace H : (if y367.length + l1.length < 3518437208883 then ((intrinsic_MinMax.f (y367 ++ l1)).bind fun bt373 => (stickfullaw21_IntrinsicGrows.l0 kj2 l0 t357 t358 bt373.1 bt373.2.1 bt373.2.2 ([] : List (S35)) 0)) else (none)) = some r := by first | (rw [hy367]; with_reducible exact H) | (have H2_ := (Option.bind_some _ _).symm.trans H; rw [hy367]; with_reducible exact H2_) | (have H2_ := (Option.bind_some _ _).symm.trans H; with_reducible exact H2_) | with_reducible exact H | (rw [hy367]; exact H) | exact H
              have Ny367 := Aside0.mk hy367
              clear hy367
              by_cases c12 : y367.length + l1.length < 3518437208883
              · rw [if_pos c12] at H
                have LMc12 := Aside0.mk c12
                clear c12
                obtain ⟨y370, hy370⟩ : ∃ y_ : List (S35), y_ = (y367 ++ l1) := ⟨_, rfl⟩
                replace H : ((intrinsic_MinMax.f y370).bind fun bt373 => (stickfullaw21_IntrinsicGrows.l0 kj2 l0 t357 t358 bt373.1 bt373.2.1 bt373.2.2 ([] : List (S35)) 0)) = some r := by first | (rw [hy370]; with_reducible exact H) | (have H2_ := (Option.bind_some _ _).symm.trans H; rw [hy370]; with_reducible exact H2_) | (have H2_ := (Option.bind_some _ _).symm.trans H; with_reducible exact H2_) | with_reducible exact H | (rw [hy370]; exact H) | exact H
                have Ny370 := Aside0.mk hy370
                clear hy370
                replace H := Option.bind_eq_some_iff.mp H
                obtain ⟨⟨t373, t374, t375⟩, A130, H⟩ := H
                replace H : (stickfullaw21_IntrinsicGrows.l0 kj2 l0 t357 t358 t373 t374 t375 ([] : List (S35)) 0) = some r := H
                have A13 := Aside0.mk A130
                clear A130
                have H' := Aside0.mk H
                clear H
                go_wp2_with (first | ((with_reducible refine gate_callee (f := 25) rfl ?_); refine goesB (some 29) rfl rfl Try.func25 #[.slice A0 l0.length c0] rfl ?_; (with_reducible refine (intrinsic_MinMax.calls _ _ l0 t357 t358 t359 _ ?side1 ?side2 A8.out).mono ?_); (case side1 => repeat (first | exact (Kd.C_below HR0.out HB.out) | (with_reducible refine Kd.C_alloc ?_ _) | (with_reducible refine Kd.C_drewN ?_ _) | (with_reducible refine Kd.C_drew ?_))); (case side2 => exact HC0.out); rintro e w14 ⟨rfl, hb⟩; refine ⟨_, rfl, ?_⟩; replace HB := bh HB hb; (try clear hb); (try clear hb2); (try clear hk); (try clear hi)) | ((with_reducible refine gate_dst (N := 44) rfl ?_); (try (refine gate_guard (by rfl) ?_; dsimp only)); refine Kd.R_lit k35 _ 35 ?hg (N := 44) ?hd (xs := ([] : List (S35))) (inner := []) (ok := fun _ => True) (okp := fun _ => True) ?hr ?hp (fun _ hk => hk) trivial (Below.refl _ _) (Nat.le_refl _) (by simp) ?_; (case hd => rfl); (case hg => rfl); (case hr => first | (go_simp; done) | (go_simp; rfl)); (case hp => exact (Reps.none _ _)); intro v362 w15 ho16 hb hg_ hnew_; clear hg_ hnew_; (first | rw [← Ny361.out] at ho16 | (simp only [Int.reduceToNat] at ho16; rw [← Ny361.out] at ho16)); have HO363 := Aside0.mk (Kd.R_lower ho16 (below_size (bw HB))); replace HB := bh HB hb; clear hb ho16) | ((with_reducible refine gate_builtin (b := .append) (xs := #[.tmp 44, .tmp 45]) rfl ?_); (try (refine gate_guard (by rfl) ?_; dsimp only)); at_builtin; refine Kd.R_append_rows k35 (w0 := w) w.heap.size rfl (.tmp 44) (.tmp 45) 22 35 (.agg #[(.int .u8 0), (.int .i64 0), (.int .i64 0), (.int .i64 0), (.bool false), (.bool false)]) 40 rfl Try.underlying22 info35 rfl (by decide) (by omega) v362 y361 l0 _ _ _ (fun _ => True) (fun _ => False) rfl rfl ?aO ?aR (fun _ _ h => h) (fun _ h => h.elim) ?aF ?aB ?aS ?aL ?_; (case aR => repeat (first | exact (Kd.C_below HR0.out HB.out) | (with_reducible refine Kd.C_alloc ?_ _) | (with_reducible refine Kd.C_drewN ?_ _) | (with_reducible refine Kd.C_drew ?_))); (case aB => exact (bw HB)); (case aF => exact (fun _ _ => trivial)); (case aO => exact (rx HO363)); (case aS => exact (below_size (bw HB))); (case aL => have := LMc10.out; omega); intro v365 w17 ho hb hg hat; rw [← Ny364.out] at ho; replace HB := Aside0.mk (hb); have HO366 := Aside0.mk (ho); clear HO363; clear ho hb hg hat) | ((with_reducible refine gate_builtin (b := .append) (xs := #[.tmp 46, .tmp 48]) rfl ?_); (try (refine gate_guard (by rfl) ?_; dsimp only)); at_builtin; refine Kd.R_append k35 (w0 := w) w.heap.size rfl (.tmp 46) (.tmp 48) 22 35 (.agg #[(.int .u8 0), (.int .i64 0), (.int .i64 0), (.int .i64 0), (.bool false), (.bool false)]) 40 rfl Try.underlying22 info35 rfl (by decide) (by omega) v365 y364 (⟨5, 0, 0, 0, false, false⟩ : S35) [.int .u8 5, .int .i64 0, .int .i64 0, .int .i64 0, .bool false, .bool false] (fun _ => True) (fun _ => False) rfl rfl ?aP (fun _ hk => hk.elim) ?aF ?aO ?aB ?aS ?aL ?_; (case aP => exact k35_mkM _ _ _ (⟨5, 0, 0, 0, false, false⟩ : S35)); (case aB => exact (bw HB)); (case aF => exact (fun _ _ => trivial)); (case aO => exact (rx HO366)); (case aS => exact (below_size (bw HB))); (case aL => have := LMc11.out; omega); intro v368 w18 ho hb hg hat; rw [← Ny367.out] at ho; replace HB := Aside0.mk (hb); have HO369 := Aside0.mk (ho); clear HO366; clear ho hb hg hat) | ((with_reducible refine gate_builtin (b := .append) (xs := #[.tmp 49, .tmp 50]) rfl ?_); (try (refine gate_guard (by rfl) ?_; dsimp only)); at_builtin; refine Kd.R_append_rows k35 (w0 := w) w.heap.size rfl (.tmp 49) (.tmp 50) 22 35 (.agg #[(.int .u8 0), (.int .i64 0), (.int .i64 0), (.int .i64 0), (.bool false), (.bool false)]) 40 rfl Try.underlying22 info35 rfl (by decide) (by omega) v368 y367 l1 _ _ _ (fun _ => True) (fun _ => False) rfl rfl ?aO ?aR (fun _ _ h => h) (fun _ h => h.elim) ?aF ?aB ?aS ?aL ?_; (case aR => repeat (first | exact (Kd.C_below HR1.out HB.out) | (with_reducible refine Kd.C_alloc ?_ _) | (with_reducible refine Kd.C_drewN ?_ _) | (with_reducible refine Kd.C_drew ?_))); (case aB => exact (bw HB)); (case aF => exact (fun _ _ => trivial)); (case aO => exact (rx HO369)); (case aS => exact (below_size (bw HB))); (case aL => have := LMc12.out; omega); intro v371 w19 ho hb hg hat; rw [← Ny370.out] at ho; replace HB := Aside0.mk (hb); have HO372 := Aside0.mk (ho); clear HO369; clear ho hb hg hat; obtain ⟨Ao20, co20, eo20⟩ := Kd.R_slice HO372.out; subst eo20) | ((with_reducible refine gate_callee (f := 25) rfl ?_); refine goesB (some 54) rfl rfl Try.func25 #[.slice Ao20 y370.length co20] rfl ?_; (with_reducible refine (intrinsic_MinMax.calls _ _ y370 t373 t374 t375 _ ?side1 ?side2 A13.out).mono ?_); (case side1 => repeat (first | exact (Kd.R_reads' HO372.out).2.2 | (with_reducible refine Kd.C_alloc ?_ _) | (with_reducible refine Kd.C_drewN ?_ _) | (with_reducible refine Kd.C_drew ?_))); (case side2 => exact (Kd.R_reads' HO372.out).2.1); rintro e w21 ⟨rfl, hb⟩; refine ⟨_, rfl, ?_⟩; replace HO372 := Aside0.mk (Kd.R_below (rx HO372) hb); replace HB := bh HB hb; (try clear hb); (try clear hb2); (try clear hk); (try clear hi)))
                go_loopg [12, 13] kj2 (fun kq v12 v13 w' => ∃ (x12_2 : List (S35)) (x13_2 : Int), v13 = .int .i64 x13_2 ∧ Aside0 (stickfullaw21_IntrinsicGrows.l0 kq l0 t357 t358 t373 t374 t375 x12_2 x13_2 = some r) ∧ Aside0 (kq ≤ kj2) ∧ Aside0 (Kd.R k35 35 w' w.heap.size (fun _ => True) v12 x12_2) ∧ Aside0 (Below w.heap.size w w'))
                case atStart => exact ⟨(([] : List (S35))), (0), (by first | rfl | (simp; done) | (simp [*]; done)), H', ⟨Nat.le_refl _⟩, ⟨by first | exact Kd.R_nil _ _ _ _ _ | exact Kd.N_nil _ _ _ _ _ | exact Kd.V_nil _ _ _ _ _ | exact Kd.Q_nil _ _ _ _ _ | exact Kd.S_nil _ _ _ _ _⟩, ⟨by repeat (first | (with_reducible first | exact HB.out | apply below_alloc | apply pw_below_drewN | apply below_drew1) | exact HB.out)⟩⟩
                case round =>
                  clear H'
                  try clear c1
                  try clear c2
                  try clear p2
                  try clear c4
                  try clear c4b0
                  try clear c4b1
                  try clear c5
                  try clear c7
                  try clear c9
                  try clear c9b0
                  try clear c9b1
                  try clear c10
                  try clear c11
                  try clear c12
                  try clear p2
                  obtain ⟨x12_2, x13_2, rfl, HA, HK2, HO_12, HB⟩ := hrel
                  cases gk with
                  | zero => exact absurd HA.out (by simp [stickfullaw21_IntrinsicGrows.l0])
                  | succ k2 =>
                    have H := HA.out
                    clear HA
                    simp only [stickfullaw21_IntrinsicGrows.l0] at H
                    by_cases c22 : x13_2 < (l0.length : Int)
                    · rw [if_pos c22] at H
                      have c22b0 : decide (x13_2 < (l0.length : Int)) = true := decide_eq_true c22
                      clear c22
                      by_cases c23 : 0 ≤ x13_2
                      · rw [if_pos c23] at H
                        have c23b0 : decide (0 ≤ x13_2) = true := decide_eq_true c23
                        clear c23
                        by_cases c24 : x12_2.length < 3518437208883
                        · rw [if_pos c24] at H
                          have LMc24 := Aside0.mk c24
                          clear c24
                          obtain ⟨y378, hy378⟩ : ∃ y_ : List (S35), y_ = (x12_2 ++ [(⟨(rd_T35 l0 x13_2).f0, (rd_T35 l0 x13_2).f1, (rd_T35 l0 x13_2).f2, (rd_T35 l0 x13_2).f3, false, false⟩ : S35)]) := ⟨_, rfl⟩
                          replace H : (stickfullaw21_IntrinsicGrows.l0 k2 l0 t357 t358 t373 t374 t375 y378 (wrap64 (x13_2 + 1))) = some r := by first | (rw [hy378]; with_reducible exact H) | (have H2_ := (Option.bind_some _ _).symm.trans H; rw [hy378]; with_reducible exact H2_) | (have H2_ := (Option.bind_some _ _).symm.trans H; with_reducible exact H2_) | with_reducible exact H | (rw [hy378]; exact H) | exact H
                          have Ny378 := Aside0.mk hy378
                          clear hy378
                          have H' := Aside0.mk H
                          clear H
                          have p376 : 0 ≤ (x13_2 : Int) := of_decide_eq_true (by first | (with_reducible assumption) | assumption)
                          have q376 : x13_2 < (l0.length : Int) := of_decide_eq_true (by first | (with_reducible assumption) | assumption)
                          obtain ⟨ad376, e376, hx376_0, hx376_1, hx376_2, hx376_3, hx376_4, hx376_5⟩ := at_T35 HR0.out x13_2 p376 q376
                          cases e376
                          replace hx376_0 := (HB.out.cell (World.block_lt_of_cell? w _ hx376_0)).trans hx376_0
                          replace hx376_1 := (HB.out.cell (World.block_lt_of_cell? w _ hx376_1)).trans hx376_1
                          replace hx376_2 := (HB.out.cell (World.block_lt_of_cell? w _ hx376_2)).trans hx376_2
                          replace hx376_3 := (HB.out.cell (World.block_lt_of_cell? w _ hx376_3)).trans hx376_3
                          replace hx376_4 := (HB.out.cell (World.block_lt_of_cell? w _ hx376_4)).trans hx376_4
                          replace hx376_5 := (HB.out.cell (World.block_lt_of_cell? w _ hx376_5)).trans hx376_5
                          replace p376 := eq_true p376
                          replace q376 := eq_true q376
                          go_wp2_with (first | ((with_reducible refine gate_dst (N := 14) rfl ?_); (try (refine gate_guard (by rfl) ?_; dsimp only)); refine box_event ?hg (N := 14) ?hd (cs := #[.int .u8 0, .int .i64 0, .int .i64 0, .int .i64 0, .bool false, .bool false]) (t := 35) ?hr ?_; (case hd => rfl); (case hg => rfl); (case hr => first | (go_simp; done) | (go_simp; rfl)); intro gb377 hg w25 hbox hb; replace HO_12 := Aside0.mk (Kd.R_below (Kd.R_elderB (rx HO_12) gb377 (Nat.le_of_eq hg.symm)) hb); have BK377 := Aside0.mk (hbox); have GW377 := bge HB hg; have GE377 := bge HB hg; replace HB := bh HB hb; clear hb hbox hg; obtain ⟨hcz26_0, hcz26_1, hcz26_2, hcz26_3, hcz26_4, hcz26_5⟩ := cz6 BK377; obtain ⟨hfz26_0, hfz26_1, hfz26_2, hfz26_3, hfz26_4, hfz26_5⟩ := fz6 BK377) | ((with_reducible refine gate_store (t := 35) (p := 14) (v := .tmp 67) rfl ?_); refine Aside0.out ?_))
                          refine Aside0.mk ?_
                          refine Go.Proofs.Ytkegnlidlabjeaa.Hand.store_row_event rfl 35 (.tmp 14) (.tmp 67) rfl rfl gb377 #[.int .u8 ((rd_T35 l0 x13_2).f0), .int .i64 ((rd_T35 l0 x13_2).f1), .int .i64 ((rd_T35 l0 x13_2).f2), .int .i64 ((rd_T35 l0 x13_2).f3), .bool ((rd_T35 l0 x13_2).f4), .bool ((rd_T35 l0 x13_2).f5)] rfl rfl 35 _ BK377.out (by kernel_rfl) rfl (by simp [Value.oneCell']) ?_
                          intro ws hs hk hb
                          replace HO_12 := Aside0.mk (Kd.R_mono (Kd.R_keep HO_12.out hk (fun _ h => h.2)) (ok' := fun k => True ∧ k ≠ gb377) (fun _ h => h))
                          replace BK377 := Aside0.mk hs; replace HB := Aside0.mk (hb _ _ GE377.out HB.out); clear hs hb hk hcz26_0 hfz26_0 hcz26_1 hfz26_1 hcz26_2 hfz26_2 hcz26_3 hfz26_3 hcz26_4 hfz26_4 hcz26_5 hfz26_5
                          obtain ⟨hcz26_0, hcz26_1, hcz26_2, hcz26_3, hcz26_4, hcz26_5⟩ := cz6 BK377
                          obtain ⟨hfz26_0, hfz26_1, hfz26_2, hfz26_3, hfz26_4, hfz26_5⟩ := fz6 BK377
                          go_wp2_with (first | ((with_reducible refine gate_builtin (b := .append) (xs := #[.tmp 70, .tmp 72]) rfl ?_); (try (refine gate_guard (by rfl) ?_; dsimp only)); at_builtin; refine Kd.R_append k35 (w0 := w) w.heap.size rfl (.tmp 70) (.tmp 72) 22 35 (.agg #[(.int .u8 0), (.int .i64 0), (.int .i64 0), (.int .i64 0), (.bool false), (.bool false)]) 40 rfl Try.underlying22 info35 rfl (by decide) (by omega) u12 x12_2 (⟨(rd_T35 l0 x13_2).f0, (rd_T35 l0 x13_2).f1, (rd_T35 l0 x13_2).f2, (rd_T35 l0 x13_2).f3, false, false⟩ : S35) [.int .u8 ((rd_T35 l0 x13_2).f0), .int .i64 ((rd_T35 l0 x13_2).f1), .int .i64 ((rd_T35 l0 x13_2).f2), .int .i64 ((rd_T35 l0 x13_2).f3), .bool false, .bool false] (fun k_ => k_ ≠ gb377) (fun _ => False) rfl (by first | (go_simp; done) | (go_simp; rfl)) ?aP (fun _ hk => hk.elim) ?aF ?aO ?aB ?aS ?aL ?_; (case aP => exact k35_mkM _ _ _ (⟨(rd_T35 l0 x13_2).f0, (rd_T35 l0 x13_2).f1, (rd_T35 l0 x13_2).f2, (rd_T35 l0 x13_2).f3, false, false⟩ : S35)); (case aB => exact (bw HB)); (case aF => exact (fun k_ hk => Kd.freshB (o := .cells #[.int .u8 ((rd_T35 l0 x13_2).f0), .int .i64 ((rd_T35 l0 x13_2).f1), .int .i64 ((rd_T35 l0 x13_2).f2), .int .i64 ((rd_T35 l0 x13_2).f3), .bool false, .bool false] 35 (0, 0)) (bp BK377) k_ hk)); (case aO => exact (by (with_reducible repeat (first | apply Kd.R_alloc | apply Kd.R_drewN | apply Kd.R_drew)); exact Kd.R_mono (Kd.R_far (p := ⟨gb377, 5, none⟩) (Kd.R_far (p := ⟨gb377, 4, none⟩) (Kd.R_mono HO_12.out (fun k_ hk => (⟨hk, hk.2⟩ : _ ∧ k_ ≠ gb377))) (fun _ hk => hk.2) (.bool false)) (fun _ hk => hk.2) (.bool false)) (fun _ hk => hk.1.2))); (case aS => exact (below_size (bw HB))); (case aL => have := LMc24.out; omega); intro v379 w27 ho hb hg hat; rw [← Ny378.out] at ho; replace BK377 := Aside0.mk (blk_grown (o := .cells #[.int .u8 ((rd_T35 l0 x13_2).f0), .int .i64 ((rd_T35 l0 x13_2).f1), .int .i64 ((rd_T35 l0 x13_2).f2), .int .i64 ((rd_T35 l0 x13_2).f3), .bool false, .bool false] 35 (0, 0)) (bp BK377) hg (Kd.R_away HO_12.out (fun _ hk => hk.2))); replace HB := Aside0.mk (hb); have HO380 := Aside0.mk (ho); clear HO_12; clear ho hb hg hat))
                          go_roundg k2
                          case measure => have := HJ2.out; have := HK2.out; omega
                          case rel => exact ⟨(y378), (wrap64 (x13_2 + 1)), (by first | rfl | (simp; done) | (simp [*]; done)), H', ⟨by have := HJ2.out; have := HK2.out; omega⟩, ⟨by (with_reducible repeat (first | apply Kd.R_alloc | apply Kd.R_drewN | apply Kd.R_drew)); exact Kd.R_mono HO380.out (fun _ hk => trivial)⟩, ⟨by repeat (first | (with_reducible first | exact HB.out | apply below_alloc | apply pw_below_drewN | apply below_drew1 | refine below_set ?_ GE377.out) | exact HB.out)⟩⟩
                        · rw [if_neg c24] at H
                          exact absurd H (by simp)
                      · rw [if_neg c23] at H
                        exact absurd H (by simp)
                    · rw [if_neg c22] at H
                      have c22b0 : decide (x13_2 < (l0.length : Int)) = false := decide_eq_false c22
                      clear c22
                      replace H := Option.bind_eq_some_iff.mp H
                      obtain ⟨⟨t381, t382, t383⟩, A280, H⟩ := H
                      replace H : (if t357 ≥ 0 then (if t357 ≤ t358 then (if t375 = 0 then (if t373 ≥ t357 then (if t374 ≥ t358 then (if t383 = 0 then (if t381 = t382 then ((stickfullaw21_head.f k2).bind fun t384 => (some t384)) else (some false)) else ((stickfullaw21_head.f k2).bind fun t385 => (some t385))) else (some false)) else (some false)) else (if t383 = 0 then (if t381 = t382 then ((stickfullaw21_head.f k2).bind fun t386 => (some t386)) else (some false)) else ((stickfullaw21_head.f k2).bind fun t387 => (some t387)))) else (some false)) else (some false)) = some r := H
                      have A28 := Aside0.mk A280
                      clear A280
                      by_cases c29 : t357 ≥ 0
                      · rw [if_pos c29] at H
                        have c29b0 : decide (0 ≤ t357) = true := decide_eq_true c29
                        clear c29
                        by_cases c30 : t357 ≤ t358
                        · rw [if_pos c30] at H
                          have c30b0 : decide (t357 ≤ t358) = true := decide_eq_true c30
                          clear c30
                          by_cases c31 : t375 = 0
                          · rw [if_pos c31] at H
                            have c31b0 : (t375 == 0) = true := beq_iff_eq.mpr c31
                            have c31b1 : (t375 != 0) = false := bne_eq_false_iff_eq.mpr c31
                            clear c31
                            by_cases c32 : t373 ≥ t357
                            · rw [if_pos c32] at H
                              have c32b0 : decide (t357 ≤ t373) = true := decide_eq_true c32
                              clear c32
                              by_cases c33 : t374 ≥ t358
                              · rw [if_pos c33] at H
                                have c33b0 : decide (t358 ≤ t374) = true := decide_eq_true c33
                                clear c33
                                by_cases c34 : t383 = 0
                                · rw [if_pos c34] at H
                                  have c34b0 : (t383 == 0) = true := beq_iff_eq.mpr c34
                                  have c34b1 : (t383 != 0) = false := bne_eq_false_iff_eq.mpr c34
                                  clear c34
                                  by_cases c35 : t381 = t382
                                  · rw [if_pos c35] at H
                                    have c35b0 : (t381 == t382) = true := beq_iff_eq.mpr c35
                                    have c35b1 : (t381 != t382) = false := bne_eq_false_iff_eq.mpr c35
                                    clear c35
                                    replace H := Option.bind_eq_some_iff.mp H
                                    obtain ⟨t384, A360, H⟩ := H
                                    replace H : (some t384) = some r := H
                                    have A36 := Aside0.mk A360
                                    clear A360
                                    obtain rfl := Option.some.inj H
                                    obtain ⟨Ao37, co37, eo37⟩ := Kd.R_slice HO_12.out
                                    subst eo37
                                    go_wp2_with (first | ((with_reducible refine gate_callee (f := 25) rfl ?_); refine goesB (some 76) rfl rfl Try.func25 #[.slice Ao37 x12_2.length co37] rfl ?_; (with_reducible refine (intrinsic_MinMax.calls _ _ x12_2 t381 t382 t383 _ ?side1 ?side2 A28.out).mono ?_); (case side1 => repeat (first | exact (Kd.R_reads' HO_12.out).2.2 | (with_reducible refine Kd.C_alloc ?_ _) | (with_reducible refine Kd.C_drewN ?_ _) | (with_reducible refine Kd.C_drew ?_))); (case side2 => exact (Kd.R_reads' HO_12.out).2.1); rintro e w38 ⟨rfl, hb⟩; refine ⟨_, rfl, ?_⟩; replace HO_12 := Aside0.mk (Kd.R_below (rx HO_12) hb); replace HB := bh HB hb; (try clear hb); (try clear hb2); (try clear hk); (try clear hi)) | (go_at_call 24; (with_reducible refine (stickfullaw21_head.calls k2  t384 _ A36.out).mono ?_); rintro e w39 ⟨rfl, hb⟩; replace HO_12 := Aside0.mk (Kd.R_below (rx HO_12) hb); replace HB := bh HB hb; (try clear hb); (try clear hb2); (try clear hk); (try clear hi)))
                                    go_ret
                                    exact ⟨by first | rfl | (simp [errW_none, errW_some] <;> rfl) | (simp [*, errW_none, errW_some] <;> rfl), by repeat (first | (with_reducible first | exact HB.out | apply below_alloc | apply pw_below_drewN | apply below_drew1) | exact HB.out)⟩
                                  · rw [if_neg c35] at H
                                    have c35b0 : (t381 == t382) = false := beq_eq_false_iff_ne.mpr c35
                                    have c35b1 : (t381 != t382) = true := bne_iff_ne.mpr c35
                                    exact absurd ((Option.some.inj H).trans HR_.out) (by decide)
                                · rw [if_neg c34] at H
                                  have c34b0 : (t383 == 0) = false := beq_eq_false_iff_ne.mpr c34
                                  have c34b1 : (t383 != 0) = true := bne_iff_ne.mpr c34
                                  replace H := Option.bind_eq_some_iff.mp H
                                  obtain ⟨t385, A400, H⟩ := H
                                  replace H : (some t385) = some r := H
                                  have A40 := Aside0.mk A400
                                  clear A400
                                  obtain rfl := Option.some.inj H
                                  obtain ⟨Ao41, co41, eo41⟩ := Kd.R_slice HO_12.out
                                  subst eo41
                                  go_wp2_with (first | ((with_reducible refine gate_callee (f := 25) rfl ?_); refine goesB (some 76) rfl rfl Try.func25 #[.slice Ao41 x12_2.length co41] rfl ?_; (with_reducible refine (intrinsic_MinMax.calls _ _ x12_2 t381 t382 t383 _ ?side1 ?side2 A28.out).mono ?_); (case side1 => repeat (first | exact (Kd.R_reads' HO_12.out).2.2 | (with_reducible refine Kd.C_alloc ?_ _) | (with_reducible refine Kd.C_drewN ?_ _) | (with_reducible refine Kd.C_drew ?_))); (case side2 => exact (Kd.R_reads' HO_12.out).2.1); rintro e w42 ⟨rfl, hb⟩; refine ⟨_, rfl, ?_⟩; replace HO_12 := Aside0.mk (Kd.R_below (rx HO_12) hb); replace HB := bh HB hb; (try clear hb); (try clear hb2); (try clear hk); (try clear hi)) | (go_at_call 24; (with_reducible refine (stickfullaw21_head.calls k2  t385 _ A40.out).mono ?_); rintro e w43 ⟨rfl, hb⟩; replace HO_12 := Aside0.mk (Kd.R_below (rx HO_12) hb); replace HB := bh HB hb; (try clear hb); (try clear hb2); (try clear hk); (try clear hi)))
                                  go_ret
                                  exact ⟨by first | rfl | (simp [errW_none, errW_some] <;> rfl) | (simp [*, errW_none, errW_some] <;> rfl), by repeat (first | (with_reducible first | exact HB.out | apply below_alloc | apply pw_below_drewN | apply below_drew1) | exact HB.out)⟩
                              · rw [if_neg c33] at H
                                have c33b0 : decide (t358 ≤ t374) = false := decide_eq_false c33
                                clear c33
                                exact absurd ((Option.some.inj H).trans HR_.out) (by decide)
                            · rw [if_neg c32] at H
                              have c32b0 : decide (t357 ≤ t373) = false := decide_eq_false c32
                              clear c32
                              exact absurd ((Option.some.inj H).trans HR_.out) (by decide)
                          · rw [if_neg c31] at H
                            have c31b0 : (t375 == 0) = false := beq_eq_false_iff_ne.mpr c31
                            have c31b1 : (t375 != 0) = true := bne_iff_ne.mpr c31
                            by_cases c44 : t383 = 0
                            · rw [if_pos c44] at H
                              have c44b0 : (t383 == 0) = true := beq_iff_eq.mpr c44
                              have c44b1 : (t383 != 0) = false := bne_eq_false_iff_eq.mpr c44
                              clear c44
                              by_cases c45 : t381 = t382
                              · rw [if_pos c45] at H
                                have c45b0 : (t381 == t382) = true := beq_iff_eq.mpr c45
                                have c45b1 : (t381 != t382) = false := bne_eq_false_iff_eq.mpr c45
                                clear c45
                                replace H := Option.bind_eq_some_iff.mp H
                                obtain ⟨t386, A460, H⟩ := H
                                replace H : (some t386) = some r := H
                                have A46 := Aside0.mk A460
                                clear A460
                                obtain rfl := Option.some.inj H
                                obtain ⟨Ao47, co47, eo47⟩ := Kd.R_slice HO_12.out
                                subst eo47
                                go_wp2_with (first | ((with_reducible refine gate_callee (f := 25) rfl ?_); refine goesB (some 76) rfl rfl Try.func25 #[.slice Ao47 x12_2.length co47] rfl ?_; (with_reducible refine (intrinsic_MinMax.calls _ _ x12_2 t381 t382 t383 _ ?side1 ?side2 A28.out).mono ?_); (case side1 => repeat (first | exact (Kd.R_reads' HO_12.out).2.2 | (with_reducible refine Kd.C_alloc ?_ _) | (with_reducible refine Kd.C_drewN ?_ _) | (with_reducible refine Kd.C_drew ?_))); (case side2 => exact (Kd.R_reads' HO_12.out).2.1); rintro e w48 ⟨rfl, hb⟩; refine ⟨_, rfl, ?_⟩; replace HO_12 := Aside0.mk (Kd.R_below (rx HO_12) hb); replace HB := bh HB hb; (try clear hb); (try clear hb2); (try clear hk); (try clear hi)) | (go_at_call 24; (with_reducible refine (stickfullaw21_head.calls k2  t386 _ A46.out).mono ?_); rintro e w49 ⟨rfl, hb⟩; replace HO_12 := Aside0.mk (Kd.R_below (rx HO_12) hb); replace HB := bh HB hb; (try clear hb); (try clear hb2); (try clear hk); (try clear hi)))
                                go_ret
                                exact ⟨by first | rfl | (simp [errW_none, errW_some] <;> rfl) | (simp [*, errW_none, errW_some] <;> rfl), by repeat (first | (with_reducible first | exact HB.out | apply below_alloc | apply pw_below_drewN | apply below_drew1) | exact HB.out)⟩
                              · rw [if_neg c45] at H
                                have c45b0 : (t381 == t382) = false := beq_eq_false_iff_ne.mpr c45
                                have c45b1 : (t381 != t382) = true := bne_iff_ne.mpr c45
                                exact absurd ((Option.some.inj H).trans HR_.out) (by decide)
                            · rw [if_neg c44] at H
                              have c44b0 : (t383 == 0) = false := beq_eq_false_iff_ne.mpr c44
                              have c44b1 : (t383 != 0) = true := bne_iff_ne.mpr c44
                              replace H := Option.bind_eq_some_iff.mp H
                              obtain ⟨t387, A500, H⟩ := H
                              replace H : (some t387) = some r := H
                              have A50 := Aside0.mk A500
                              clear A500
                              obtain rfl := Option.some.inj H
                              obtain ⟨Ao51, co51, eo51⟩ := Kd.R_slice HO_12.out
                              subst eo51
                              go_wp2_with (first | ((with_reducible refine gate_callee (f := 25) rfl ?_); refine goesB (some 76) rfl rfl Try.func25 #[.slice Ao51 x12_2.length co51] rfl ?_; (with_reducible refine (intrinsic_MinMax.calls _ _ x12_2 t381 t382 t383 _ ?side1 ?side2 A28.out).mono ?_); (case side1 => repeat (first | exact (Kd.R_reads' HO_12.out).2.2 | (with_reducible refine Kd.C_alloc ?_ _) | (with_reducible refine Kd.C_drewN ?_ _) | (with_reducible refine Kd.C_drew ?_))); (case side2 => exact (Kd.R_reads' HO_12.out).2.1); rintro e w52 ⟨rfl, hb⟩; refine ⟨_, rfl, ?_⟩; replace HO_12 := Aside0.mk (Kd.R_below (rx HO_12) hb); replace HB := bh HB hb; (try clear hb); (try clear hb2); (try clear hk); (try clear hi)) | (go_at_call 24; (with_reducible refine (stickfullaw21_head.calls k2  t387 _ A50.out).mono ?_); rintro e w53 ⟨rfl, hb⟩; replace HO_12 := Aside0.mk (Kd.R_below (rx HO_12) hb); replace HB := bh HB hb; (try clear hb); (try clear hb2); (try clear hk); (try clear hi)))
                              go_ret
                              exact ⟨by first | rfl | (simp [errW_none, errW_some] <;> rfl) | (simp [*, errW_none, errW_some] <;> rfl), by repeat (first | (with_reducible first | exact HB.out | apply below_alloc | apply pw_below_drewN | apply below_drew1) | exact HB.out)⟩
                        · rw [if_neg c30] at H
                          have c30b0 : decide (t357 ≤ t358) = false := decide_eq_false c30
                          clear c30
                          exact absurd ((Option.some.inj H).trans HR_.out) (by decide)
                      · rw [if_neg c29] at H
                        have c29b0 : decide (0 ≤ t357) = false := decide_eq_false c29
                        clear c29
                        exact absurd ((Option.some.inj H).trans HR_.out) (by decide)
              · rw [if_neg c12] at H
                exact absurd H (by simp)
            · rw [if_neg c11] at H
              exact absurd H (by simp)
          · rw [if_neg c10] at H
            exact absurd H (by simp)
        · rw [if_neg c9] at H
          have c9b0 : (t359 == 0) = false := beq_eq_false_iff_ne.mpr c9
          have c9b1 : (t359 != 0) = true := bne_iff_ne.mpr c9
          by_cases c54 : t357 = 0
          · rw [if_pos c54] at H
            have c54b0 : (t357 == 0) = true := beq_iff_eq.mpr c54
            have c54b1 : (t357 != 0) = false := bne_eq_false_iff_eq.mpr c54
            clear c54
            by_cases c55 : t358 = 0
            · rw [if_pos c55] at H
              have c55b0 : (t358 == 0) = true := beq_iff_eq.mpr c55
              have c55b1 : (t358 != 0) = false := bne_eq_false_iff_eq.mpr c55
              clear c55
              replace H := Option.bind_eq_some_iff.mp H
              obtain ⟨t360, A560, H⟩ := H
              replace H : (some t360) = some r := H
              have A56 := Aside0.mk A560
              clear A560
              obtain rfl := Option.some.inj H
              go_wp2_with (first | ((with_reducible refine gate_callee (f := 25) rfl ?_); refine goesB (some 29) rfl rfl Try.func25 #[.slice A0 l0.length c0] rfl ?_; (with_reducible refine (intrinsic_MinMax.calls _ _ l0 t357 t358 t359 _ ?side1 ?side2 A8.out).mono ?_); (case side1 => repeat (first | exact (Kd.C_below HR0.out HB.out) | (with_reducible refine Kd.C_alloc ?_ _) | (with_reducible refine Kd.C_drewN ?_ _) | (with_reducible refine Kd.C_drew ?_))); (case side2 => exact HC0.out); rintro e w57 ⟨rfl, hb⟩; refine ⟨_, rfl, ?_⟩; replace HB := bh HB hb; (try clear hb); (try clear hb2); (try clear hk); (try clear hi)) | (go_at_call 24; (with_reducible refine (stickfullaw21_head.calls kj2  t360 _ A56.out).mono ?_); rintro e w58 ⟨rfl, hb⟩; replace HB := bh HB hb; (try clear hb); (try clear hb2); (try clear hk); (try clear hi)))
              go_ret
              exact ⟨by first | rfl | (simp [errW_none, errW_some] <;> rfl) | (simp [*, errW_none, errW_some] <;> rfl), by repeat (first | (with_reducible first | exact HB.out | apply below_alloc | apply pw_below_drewN | apply below_drew1) | exact HB.out)⟩
            · rw [if_neg c55] at H
              have c55b0 : (t358 == 0) = false := beq_eq_false_iff_ne.mpr c55
              have c55b1 : (t358 != 0) = true := bne_iff_ne.mpr c55
              exact absurd ((Option.some.inj H).trans HR_.out) (by decide)
          · rw [if_neg c54] at H
            have c54b0 : (t357 == 0) = false := beq_eq_false_iff_ne.mpr c54
            have c54b1 : (t357 != 0) = true := bne_iff_ne.mpr c54
            exact absurd ((Option.some.inj H).trans HR_.out) (by decide)

end Go.Proofs.Ytkegnlidlabjeaa.HIntr
