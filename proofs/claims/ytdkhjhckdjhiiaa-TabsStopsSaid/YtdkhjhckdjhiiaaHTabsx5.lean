-- Written by this claim's own program over the kit's print.
import Derived.Test.YtdkhjhckdjhiiaaHTabsb
import Derived.Test.YtdkhjhckdjhiiaaHTabsx0
import Derived.Test.YtdkhjhckdjhiiaaHTabsx3
import Derived.Test.YtdkhjhckdjhiiaaHTabsx4
namespace Go.Proofs.Ytdkhjhckdjhiiaa.HTabs
open Go.RowKit Go.Proofs.YtdkhjhckdjhiiaaW.PrintWords Go.Proofs.YtdkhjhckdjhiiaaW.PrintLast Go.Proofs.YtdkhjhckdjhiiaaW.PrintMore Go.Proofs.Ytdkhjhckdjhiiaa.Hand
attribute [local go_sem] max2_int min2_int max_two min_two max_three min_three max_four min_four   -- for this text's walks alone
set_option linter.unusedVariables false
set_option linter.unusedSimpArgs false

/-! ### stickfulref12_Same: function 9 -/
def stickfulref12_Same.l0 : Nat → List Int → List Int → Int → Option (Bool)
  | 0, _, _, _ => none
  | k + 1, x0, x1, x5 => if x5 < (x0.length : Int) then (if 0 ≤ x5 then (if x5 < (x1.length : Int) then (if (rd x0 x5) = (rd x1 x5) then (stickfulref12_Same.l0 k x0 x1 (wrap64 (x5 + 1))) else (some false)) else (none)) else (none)) else (some true)
def stickfulref12_Same.f (k : Nat) (l0 : List Int) (l1 : List Int) : Option (Bool) := if (l0.length : Int) = (l1.length : Int) then (stickfulref12_Same.l0 k l0 l1 0) else (some false)
theorem stickfulref12_Same.mono_l : ∀ k, (∀ y0 y1 y2, LeO (stickfulref12_Same.l0 k y0 y1 y2) (stickfulref12_Same.l0 (k + 1) y0 y1 y2))
  | 0 => fun _ _ _ r h => by simp [stickfulref12_Same.l0] at h
  | k + 1 => by
    have ih0 := stickfulref12_Same.mono_l k
    · intro y0 y1 y2
      unfold stickfulref12_Same.l0
      repeat' first
      | (with_reducible exact ih0 _ _ _)
      | (with_reducible exact LeO.refl _)
      | (with_reducible exact LeO.none _)
      | (with_reducible refine LeO.ite ?_ ?_)
      | (with_reducible refine LeO.bind ?_ (fun _ => ?_))
      | exact ih0 _ _ _
      | exact LeO.none _
      | refine LeO.ite ?_ ?_
      | refine LeO.bind ?_ (fun _ => ?_)
theorem stickfulref12_Same.mono : ∀ a0 a1 k, LeO (stickfulref12_Same.f k a0 a1) (stickfulref12_Same.f (k + 1) a0 a1) := by
  intro a0 a1 k
  have ih0 := stickfulref12_Same.mono_l k
  unfold stickfulref12_Same.f
  repeat' first
      | (with_reducible exact ih0 _ _ _)
      | (with_reducible exact LeO.refl _)
      | (with_reducible exact LeO.none _)
      | (with_reducible refine LeO.ite ?_ ?_)
      | (with_reducible refine LeO.bind ?_ (fun _ => ?_))
      | exact ih0 _ _ _
      | exact LeO.none _
      | refine LeO.ite ?_ ?_
      | refine LeO.bind ?_ (fun _ => ?_)
set_option maxHeartbeats 8000000 in
set_option maxRecDepth 100000 in
theorem stickfulref12_Same.calls (k : Nat) (A0 : Option Addr) (c0 : Nat) (l0 : List Int) (A1 : Option Addr) (c1 : Nat) (l1 : List Int) (r : Bool) (w : World) (hr0 : Kd.C (Kd.int .i64) w A0 l0.length l0) (hc0 : l0.length ≤ c0) (hr1 : Kd.C (Kd.int .i64) w A1 l1.length l1) (hc1 : l1.length ≤ c1) (h : stickfulref12_Same.f k l0 l1 = some r) :
    Calls Try.prog 9 #[.slice A0 l0.length c0, .slice A1 l1.length c1] w fun e w' => e = .returned (.bool r) ∧ Drawn0 w w' := by
  have HR0 := Aside0.mk hr0
  have HC0 := Aside0.mk hc0
  clear hr0 hc0
  have HR1 := Aside0.mk hr1
  have HC1 := Aside0.mk hc1
  clear hr1 hc1
  have H : (if (l0.length : Int) = (l1.length : Int) then (stickfulref12_Same.l0 k l0 l1 0) else (some false)) = some r := h
  clear h
  by_cases c3 : (l0.length : Int) = (l1.length : Int)
  · rw [if_pos c3] at H
    have c3b0 : ((l0.length : Int) == (l1.length : Int)) = true := beq_iff_eq.mpr c3
    have c3b1 : ((l0.length : Int) != (l1.length : Int)) = false := bne_eq_false_iff_eq.mpr c3
    have c3b2 : (l0.length == l1.length) = true := by first | simpa using c3 | (simp at c3 ⊢; omega)
    clear c3
    have H' := Aside0.mk H
    clear H
    go_enter Try.func9, Try.ntmps9
    go_wp2
    repeat (go_quiet (fail); try go_wp2)
    go_loopg [5] k (fun kq v5 w' => ∃ (x5_1 : Int), v5 = .int .i64 x5_1 ∧ Aside0 (stickfulref12_Same.l0 kq l0 l1 x5_1 = some r) ∧ Aside0 (kq ≤ k) ∧ Drawn0 w w')
    case atStart => exact ⟨(0), (by first | rfl | (simp; done) | (simp [*]; done)), H', ⟨Nat.le_refl _⟩, by repeat (first | exact Drawn0.refl _ | apply Drawn0.step)⟩
    case round =>
      clear H'
      try clear c1
      try clear p2
      try clear c3
      try clear c3b0
      try clear c3b1
      try clear c3b2
      obtain ⟨x5_1, rfl, HA, HK1, ⟨m1, rfl⟩⟩ := hrel
      cases gk with
      | zero => exact absurd HA.out (by simp [stickfulref12_Same.l0])
      | succ k1 =>
        have H := HA.out
        clear HA
        simp only [stickfulref12_Same.l0] at H
        by_cases c4 : x5_1 < (l0.length : Int)
        · rw [if_pos c4] at H
          have c4b0 : decide (x5_1 < (l0.length : Int)) = true := decide_eq_true c4
          clear c4
          by_cases c5 : 0 ≤ x5_1
          · rw [if_pos c5] at H
            have c5b0 : decide (0 ≤ x5_1) = true := decide_eq_true c5
            clear c5
            by_cases c6 : x5_1 < (l1.length : Int)
            · rw [if_pos c6] at H
              have c6b0 : decide (x5_1 < (l1.length : Int)) = true := decide_eq_true c6
              clear c6
              by_cases c7 : (rd l0 x5_1) = (rd l1 x5_1)
              · rw [if_pos c7] at H
                have c7b0 : ((rd l0 x5_1) == (rd l1 x5_1)) = true := beq_iff_eq.mpr c7
                have c7b1 : ((rd l0 x5_1) != (rd l1 x5_1)) = false := bne_eq_false_iff_eq.mpr c7
                clear c7
                have H' := Aside0.mk H
                clear H
                have p125 : 0 ≤ (x5_1 : Int) := of_decide_eq_true (by first | (with_reducible assumption) | assumption)
                have q125 : x5_1 < (l0.length : Int) := of_decide_eq_true (by first | (with_reducible assumption) | assumption)
                obtain ⟨ad125, e125, hx125_0⟩ := Kd.at_int HR0.out x5_1 p125 q125
                cases e125
                replace p125 := eq_true p125
                replace q125 := eq_true q125
                have p126 : 0 ≤ (x5_1 : Int) := of_decide_eq_true (by first | (with_reducible assumption) | assumption)
                have q126 : x5_1 < (l1.length : Int) := of_decide_eq_true (by first | (with_reducible assumption) | assumption)
                obtain ⟨ad126, e126, hx126_0⟩ := Kd.at_int HR1.out x5_1 p126 q126
                cases e126
                replace p126 := eq_true p126
                replace q126 := eq_true q126
                go_wp2
                repeat (go_quiet (fail); try go_wp2)
                go_roundg k1
                case measure => have := HK1.out; omega
                case rel => exact ⟨(wrap64 (x5_1 + 1)), (by first | rfl | (simp; done) | (simp [*]; done)), H', ⟨by have := HK1.out; omega⟩, by repeat (first | exact Drawn0.refl _ | apply Drawn0.step)⟩
              · rw [if_neg c7] at H
                have c7b0 : ((rd l0 x5_1) == (rd l1 x5_1)) = false := beq_eq_false_iff_ne.mpr c7
                have c7b1 : ((rd l0 x5_1) != (rd l1 x5_1)) = true := bne_iff_ne.mpr c7
                obtain rfl := Option.some.inj H
                have p125 : 0 ≤ (x5_1 : Int) := of_decide_eq_true (by first | (with_reducible assumption) | assumption)
                have q125 : x5_1 < (l0.length : Int) := of_decide_eq_true (by first | (with_reducible assumption) | assumption)
                obtain ⟨ad125, e125, hx125_0⟩ := Kd.at_int HR0.out x5_1 p125 q125
                cases e125
                replace p125 := eq_true p125
                replace q125 := eq_true q125
                have p126 : 0 ≤ (x5_1 : Int) := of_decide_eq_true (by first | (with_reducible assumption) | assumption)
                have q126 : x5_1 < (l1.length : Int) := of_decide_eq_true (by first | (with_reducible assumption) | assumption)
                obtain ⟨ad126, e126, hx126_0⟩ := Kd.at_int HR1.out x5_1 p126 q126
                cases e126
                replace p126 := eq_true p126
                replace q126 := eq_true q126
                go_wp2
                repeat (go_quiet (fail); try go_wp2)
                go_ret
                exact ⟨by first | rfl | (simp; done) | (simp [*]; done), by repeat (first | exact Drawn0.refl _ | apply Drawn0.step)⟩
            · rw [if_neg c6] at H
              exact absurd H (by simp)
          · rw [if_neg c5] at H
            exact absurd H (by simp)
        · rw [if_neg c4] at H
          have c4b0 : decide (x5_1 < (l0.length : Int)) = false := decide_eq_false c4
          clear c4
          obtain rfl := Option.some.inj H
          go_wp2
          repeat (go_quiet (fail); try go_wp2)
          go_ret
          exact ⟨by first | rfl | (simp; done) | (simp [*]; done), by repeat (first | exact Drawn0.refl _ | apply Drawn0.step)⟩
  · rw [if_neg c3] at H
    have c3b0 : ((l0.length : Int) == (l1.length : Int)) = false := beq_eq_false_iff_ne.mpr c3
    have c3b1 : ((l0.length : Int) != (l1.length : Int)) = true := bne_iff_ne.mpr c3
    have c3b2 : (l0.length == l1.length) = false := by first | simpa using c3 | (simp at c3 ⊢; omega)
    obtain rfl := Option.some.inj H
    go_enter Try.func9, Try.ntmps9
    go_wp2
    repeat (go_quiet (fail); try go_wp2)
    go_ret
    exact ⟨by first | rfl | (simp; done) | (simp [*]; done), by repeat (first | exact Drawn0.refl _ | apply Drawn0.step)⟩

/-! ### tabs_End: function 10 -/
def tabs_End.f (l0 : List (S31)) (l1 : List Int) (a2 : Int) : Option (Int × Int) := (tabs_Pens.f l0 l1 a2).bind fun bt127 => (if bt127.2 = 0 then (if 0 ≤ (wrap64 ((bt127.1.length : Int) - 1)) then (if (wrap64 ((bt127.1.length : Int) - 1)) < (bt127.1.length : Int) then (some (rd bt127.1 (wrap64 ((bt127.1.length : Int) - 1)), 0)) else (none)) else (none)) else (some (0, bt127.2)))
set_option maxHeartbeats 8000000 in
set_option maxRecDepth 100000 in
theorem tabs_End.calls (A0 : Option Addr) (c0 : Nat) (l0 : List (S31)) (A1 : Option Addr) (c1 : Nat) (l1 : List Int) (a2 r1 r2 : Int) (w : World) (hr0 : Kd.C k31 w A0 l0.length l0) (hc0 : l0.length ≤ c0) (hr1 : Kd.C (Kd.int .u8) w A1 l1.length l1) (hc1 : l1.length ≤ c1) (h : tabs_End.f l0 l1 a2 = some (r1, r2)) :
    Calls Try.prog 10 #[.slice A0 l0.length c0, .slice A1 l1.length c1, .int .i64 a2] w fun e w' => e = .returned (.tuple #[.int .i64 r1, .int .i64 r2]) ∧ Below w.heap.size w w' := by
  have HR0 := Aside0.mk hr0
  have HC0 := Aside0.mk hc0
  clear hr0 hc0
  have HR1 := Aside0.mk hr1
  have HC1 := Aside0.mk hc1
  clear hr1 hc1
  have HB := Aside0.mk (Below.refl w.heap.size w)
  have H : ((tabs_Pens.f l0 l1 a2).bind fun bt127 => (if bt127.2 = 0 then (if 0 ≤ (wrap64 ((bt127.1.length : Int) - 1)) then (if (wrap64 ((bt127.1.length : Int) - 1)) < (bt127.1.length : Int) then (some (rd bt127.1 (wrap64 ((bt127.1.length : Int) - 1)), 0)) else (none)) else (none)) else (some (0, bt127.2)))) = some (r1, r2) := h
  clear h
  replace H := Option.bind_eq_some_iff.mp H
  obtain ⟨⟨t127, t128⟩, A40, H⟩ := H
  replace H : (if t128 = 0 then (if 0 ≤ (wrap64 ((t127.length : Int) - 1)) then (if (wrap64 ((t127.length : Int) - 1)) < (t127.length : Int) then (some (rd t127 (wrap64 ((t127.length : Int) - 1)), 0)) else (none)) else (none)) else (some (0, t128))) = some (r1, r2) := H
  have A4 := Aside0.mk A40
  clear A40
  by_cases c5 : t128 = 0
  · rw [if_pos c5] at H
    have c5b0 : (t128 == 0) = true := beq_iff_eq.mpr c5
    have c5b1 : (t128 != 0) = false := bne_eq_false_iff_eq.mpr c5
    clear c5
    obtain ⟨ji6, hji6⟩ : ∃ j_ : Int, (wrap64 ((t127.length : Int) - 1)) = j_ := ⟨_, rfl⟩
    replace H : (if 0 ≤ (ji6) then (if (ji6) < (t127.length : Int) then (some (rd t127 (ji6), 0)) else (none)) else (none)) = some (r1, r2) := by first | (rw [hji6] at H; exact H) | (simp only [hji6] at H ⊢; exact H)
    (try rw [hji6] at A4)
    have hji6w : (IntKind.i64.wrap ((t127.length : Int) - 1)) = ji6 := (i64_w _).trans hji6
    by_cases c7 : 0 ≤ (ji6)
    · rw [if_pos c7] at H
      have c7b0 : decide (0 ≤ (ji6)) = true := decide_eq_true c7
      clear c7
      by_cases c8 : (ji6) < (t127.length : Int)
      · rw [if_pos c8] at H
        have c8b0 : decide ((ji6) < (t127.length : Int)) = true := decide_eq_true c8
        clear c8
        simp only [Option.some.injEq, Prod.mk.injEq] at H
        obtain ⟨rfl, rfl⟩ := H
        go_enter Try.func10, Try.ntmps10
        go_wp2_with (first | ((with_reducible refine gate_callee (f := 8) rfl ?_); refine goesB (some 14) rfl rfl Try.func8 #[.slice A0 l0.length c0, .slice A1 l1.length c1, .int .i64 a2] rfl ?_; (with_reducible refine (tabs_Pens.calls _ _ l0 _ _ l1 a2 t127 t128 _ ?side1 ?side2 ?side3 ?side4 A4.out).mono ?_); (case side1 => repeat (first | exact HR0.out | (with_reducible refine Kd.C_alloc ?_ _) | (with_reducible refine Kd.C_drewN ?_ _) | (with_reducible refine Kd.C_drew ?_))); (case side2 => exact HC0.out); (case side3 => repeat (first | exact HR1.out | (with_reducible refine Kd.C_alloc ?_ _) | (with_reducible refine Kd.C_drewN ?_ _) | (with_reducible refine Kd.C_drew ?_))); (case side4 => exact HC1.out); rintro e w9 ⟨v129, rfl, ho0, hb⟩; refine ⟨_, rfl, ?_⟩; have HO130 := Aside0.mk (Kd.R_lower ho0 (below_size (bw HB))); replace HB := bh HB hb; (try clear hb); (try clear hb2); (try clear hk); (try clear hi); (try clear ho0); obtain ⟨Ao10, co10, eo10⟩ := Kd.R_slice HO130.out; subst eo10; have p131 : 0 ≤ ((ji6) : Int) := of_decide_eq_true (by first | (with_reducible assumption) | assumption); have q131 : (ji6) < (t127.length : Int) := of_decide_eq_true (by first | (with_reducible assumption) | assumption); obtain ⟨ad131, e131, hx131_0⟩ := Kd.at_int (Kd.R_reads' HO130.out).2.2 (ji6) p131 q131; cases e131; replace p131 := eq_true p131; replace q131 := eq_true q131))
        go_ret2
        exact ⟨by first | rfl | (simp [errW_none, errW_some] <;> rfl) | (simp only [← hji6]; first | rfl | (simp [errW_none, errW_some] <;> rfl)) | (simp [*, errW_none, errW_some] <;> rfl), by repeat (first | (with_reducible first | exact HB.out | apply below_alloc | apply pw_below_drewN | apply below_drew1) | exact HB.out)⟩
      · rw [if_neg c8] at H
        exact absurd H (by simp)
    · rw [if_neg c7] at H
      exact absurd H (by simp)
  · rw [if_neg c5] at H
    have c5b0 : (t128 == 0) = false := beq_eq_false_iff_ne.mpr c5
    have c5b1 : (t128 != 0) = true := bne_iff_ne.mpr c5
    simp only [Option.some.injEq, Prod.mk.injEq] at H
    obtain ⟨rfl, rfl⟩ := H
    go_enter Try.func10, Try.ntmps10
    go_wp2_with (first | ((with_reducible refine gate_callee (f := 8) rfl ?_); refine goesB (some 14) rfl rfl Try.func8 #[.slice A0 l0.length c0, .slice A1 l1.length c1, .int .i64 a2] rfl ?_; (with_reducible refine (tabs_Pens.calls _ _ l0 _ _ l1 a2 t127 t128 _ ?side1 ?side2 ?side3 ?side4 A4.out).mono ?_); (case side1 => repeat (first | exact HR0.out | (with_reducible refine Kd.C_alloc ?_ _) | (with_reducible refine Kd.C_drewN ?_ _) | (with_reducible refine Kd.C_drew ?_))); (case side2 => exact HC0.out); (case side3 => repeat (first | exact HR1.out | (with_reducible refine Kd.C_alloc ?_ _) | (with_reducible refine Kd.C_drewN ?_ _) | (with_reducible refine Kd.C_drew ?_))); (case side4 => exact HC1.out); rintro e w11 ⟨v129, rfl, ho0, hb⟩; refine ⟨_, rfl, ?_⟩; have HO130 := Aside0.mk (Kd.R_lower ho0 (below_size (bw HB))); replace HB := bh HB hb; (try clear hb); (try clear hb2); (try clear hk); (try clear hi); (try clear ho0)))
    go_ret2
    exact ⟨by first | rfl | (simp [errW_none, errW_some] <;> rfl) | (simp [*, errW_none, errW_some] <;> rfl), by repeat (first | (with_reducible first | exact HB.out | apply below_alloc | apply pw_below_drewN | apply below_drew1) | exact HB.out)⟩

/-! ### stickfullaw12_head: function 7 -/
def stickfullaw12_head.f (k : Nat)  : Option (Bool) := (some (([(⟨0, 0, 0, 5, false, false⟩ : S31), (⟨4, 0, 0, 8, false, false⟩ : S31), (⟨0, 0, 0, 5, false, false⟩ : S31)] : List (S31)) : List (S31))).bind fun y132 => ((tabs_Pens.f y132 ([] : List Int) 0).bind fun bt135 => ((tabs_Pens.f y132 ([] : List Int) 3).bind fun bt139 => ((tabs_Pens.f y132 ([] : List Int) 4).bind fun bt143 => (if 2 ≤ (y132.length : Int) then ((tabs_Pens.f (y132.take 2) (([0, 1] : List Int)) 0).bind fun bt154 => ((tabs_End.f (([(⟨4, 0, 0, 0, false, false⟩ : S31)] : List (S31))) ([] : List Int) 0).bind fun bt161 => ((tabs_Step.f k 4 0 0 (-1) false false 0).bind fun bt163 => ((tabs_End.f (([(⟨0, 0, 0, 1, false, false⟩ : S31)] : List (S31))) ([] : List Int) 4611686018427387904).bind fun bt168 => ((stickfulref12_Same.f k bt135.1 (([0, 5, 8, 13] : List Int))).bind fun t173 => (if t173 = true then (if bt135.2 = 0 then ((stickfulref12_Same.f k bt139.1 (([3, 8, 16, 21] : List Int))).bind fun t177 => (if t177 = true then (if bt139.2 = 0 then ((stickfulref12_Same.f k bt143.1 (([4, 9, 16, 21] : List Int))).bind fun t181 => (if t181 = true then (if bt143.2 = 0 then ((stickfulref12_Same.f k bt154.1 (([0, 5, 5] : List Int))).bind fun t185 => (if t185 = true then (if bt154.2 = 0 then (if bt161.1 = 0 then (if bt161.2 = 0 then (if bt163.2 = 2 then (some (bt168.2 == 10)) else (some false)) else (some false)) else (some false)) else (some false)) else (some false))) else (some false)) else (some false))) else (some false)) else (some false))) else (some false)) else (some false))))))) else (none)))))
theorem stickfullaw12_head.mono : ∀ k, LeO (stickfullaw12_head.f k ) (stickfullaw12_head.f (k + 1) ) := by
  intro  k
  unfold stickfullaw12_head.f
  repeat' first
      | (with_reducible exact stickfulref12_Same.mono _ _ _)
      | (with_reducible exact tabs_Step.mono _ _ _ _ _ _ _ _)
      | (with_reducible exact LeO.refl _)
      | (with_reducible exact LeO.none _)
      | (with_reducible refine LeO.ite ?_ ?_)
      | (with_reducible refine LeO.bind ?_ (fun _ => ?_))
      | exact stickfulref12_Same.mono _ _ _
      | exact tabs_Step.mono _ _ _ _ _ _ _ _
      | exact LeO.none _
      | refine LeO.ite ?_ ?_
      | refine LeO.bind ?_ (fun _ => ?_)
set_option maxHeartbeats 8000000 in
set_option maxRecDepth 100000 in
theorem stickfullaw12_head.calls_t (k : Nat)  (r : Bool) (w : World) (h : stickfullaw12_head.f k  = some r) (hr_ : r = true) :
    Calls Try.prog 7 #[] w fun e w' => e = .returned (.bool r) ∧ Below w.heap.size w w' := by
  have hu31 := Try.underlying31
  have HR_ := Aside0.mk hr_
  clear hr_
  have HB := Aside0.mk (Below.refl w.heap.size w)
  have H : ((some (([(⟨0, 0, 0, 5, false, false⟩ : S31), (⟨4, 0, 0, 8, false, false⟩ : S31), (⟨0, 0, 0, 5, false, false⟩ : S31)] : List (S31)) : List (S31))).bind fun y132 => ((tabs_Pens.f y132 ([] : List Int) 0).bind fun bt135 => ((tabs_Pens.f y132 ([] : List Int) 3).bind fun bt139 => ((tabs_Pens.f y132 ([] : List Int) 4).bind fun bt143 => (if 2 ≤ (y132.length : Int) then ((tabs_Pens.f (y132.take 2) (([0, 1] : List Int)) 0).bind fun bt154 => ((tabs_End.f (([(⟨4, 0, 0, 0, false, false⟩ : S31)] : List (S31))) ([] : List Int) 0).bind fun bt161 => ((tabs_Step.f k 4 0 0 (-1) false false 0).bind fun bt163 => ((tabs_End.f (([(⟨0, 0, 0, 1, false, false⟩ : S31)] : List (S31))) ([] : List Int) 4611686018427387904).bind fun bt168 => ((stickfulref12_Same.f k bt135.1 (([0, 5, 8, 13] : List Int))).bind fun t173 => (if t173 = true then (if bt135.2 = 0 then ((stickfulref12_Same.f k bt139.1 (([3, 8, 16, 21] : List Int))).bind fun t177 => (if t177 = true then (if bt139.2 = 0 then ((stickfulref12_Same.f k bt143.1 (([4, 9, 16, 21] : List Int))).bind fun t181 => (if t181 = true then (if bt143.2 = 0 then ((stickfulref12_Same.f k bt154.1 (([0, 5, 5] : List Int))).bind fun t185 => (if t185 = true then (if bt154.2 = 0 then (if bt161.1 = 0 then (if bt161.2 = 0 then (if bt163.2 = 2 then (some (bt168.2 == 10)) else (some false)) else (some false)) else (some false)) else (some false)) else (some false))) else (some false)) else (some false))) else (some false)) else (some false))) else (some false)) else (some false))))))) else (none)))))) = some r := h
  clear h
  obtain ⟨y132, hy132⟩ : ∃ y_ : List (S31), y_ = (([(⟨0, 0, 0, 5, false, false⟩ : S31), (⟨4, 0, 0, 8, false, false⟩ : S31), (⟨0, 0, 0, 5, false, false⟩ : S31)] : List (S31))) := ⟨_, rfl⟩
  replace H : ((tabs_Pens.f y132 ([] : List Int) 0).bind fun bt135 => ((tabs_Pens.f y132 ([] : List Int) 3).bind fun bt139 => ((tabs_Pens.f y132 ([] : List Int) 4).bind fun bt143 => (if 2 ≤ (y132.length : Int) then ((tabs_Pens.f (y132.take 2) (([0, 1] : List Int)) 0).bind fun bt154 => ((tabs_End.f (([(⟨4, 0, 0, 0, false, false⟩ : S31)] : List (S31))) ([] : List Int) 0).bind fun bt161 => ((tabs_Step.f k 4 0 0 (-1) false false 0).bind fun bt163 => ((tabs_End.f (([(⟨0, 0, 0, 1, false, false⟩ : S31)] : List (S31))) ([] : List Int) 4611686018427387904).bind fun bt168 => ((stickfulref12_Same.f k bt135.1 (([0, 5, 8, 13] : List Int))).bind fun t173 => (if t173 = true then (if bt135.2 = 0 then ((stickfulref12_Same.f k bt139.1 (([3, 8, 16, 21] : List Int))).bind fun t177 => (if t177 = true then (if bt139.2 = 0 then ((stickfulref12_Same.f k bt143.1 (([4, 9, 16, 21] : List Int))).bind fun t181 => (if t181 = true then (if bt143.2 = 0 then ((stickfulref12_Same.f k bt154.1 (([0, 5, 5] : List Int))).bind fun t185 => (if t185 = true then (if bt154.2 = 0 then (if bt161.1 = 0 then (if bt161.2 = 0 then (if bt163.2 = 2 then (some (bt168.2 == 10)) else (some false)) else (some false)) else (some false)) else (some false)) else (some false))) else (some false)) else (some false))) else (some false)) else (some false))) else (some false)) else (some false))))))) else (none))))) = some r := by first | (rw [hy132]; with_reducible exact H) | (have H2_ := (Option.bind_some _ _).symm.trans H; rw [hy132]; with_reducible exact H2_) | (have H2_ := (Option.bind_some _ _).symm.trans H; with_reducible exact H2_) | with_reducible exact H | (rw [hy132]; exact H) | exact H
  have Ny132 := Aside0.mk hy132
  clear hy132
  replace H := Option.bind_eq_some_iff.mp H
  obtain ⟨⟨t135, t136⟩, A10, H⟩ := H
  replace H : ((tabs_Pens.f y132 ([] : List Int) 3).bind fun bt139 => ((tabs_Pens.f y132 ([] : List Int) 4).bind fun bt143 => (if 2 ≤ (y132.length : Int) then ((tabs_Pens.f (y132.take 2) (([0, 1] : List Int)) 0).bind fun bt154 => ((tabs_End.f (([(⟨4, 0, 0, 0, false, false⟩ : S31)] : List (S31))) ([] : List Int) 0).bind fun bt161 => ((tabs_Step.f k 4 0 0 (-1) false false 0).bind fun bt163 => ((tabs_End.f (([(⟨0, 0, 0, 1, false, false⟩ : S31)] : List (S31))) ([] : List Int) 4611686018427387904).bind fun bt168 => ((stickfulref12_Same.f k t135 (([0, 5, 8, 13] : List Int))).bind fun t173 => (if t173 = true then (if t136 = 0 then ((stickfulref12_Same.f k bt139.1 (([3, 8, 16, 21] : List Int))).bind fun t177 => (if t177 = true then (if bt139.2 = 0 then ((stickfulref12_Same.f k bt143.1 (([4, 9, 16, 21] : List Int))).bind fun t181 => (if t181 = true then (if bt143.2 = 0 then ((stickfulref12_Same.f k bt154.1 (([0, 5, 5] : List Int))).bind fun t185 => (if t185 = true then (if bt154.2 = 0 then (if bt161.1 = 0 then (if bt161.2 = 0 then (if bt163.2 = 2 then (some (bt168.2 == 10)) else (some false)) else (some false)) else (some false)) else (some false)) else (some false))) else (some false)) else (some false))) else (some false)) else (some false))) else (some false)) else (some false))))))) else (none)))) = some r := H
  have A1 := Aside0.mk A10
  clear A10
  replace H := Option.bind_eq_some_iff.mp H
  obtain ⟨⟨t139, t140⟩, A20, H⟩ := H
  replace H : ((tabs_Pens.f y132 ([] : List Int) 4).bind fun bt143 => (if 2 ≤ (y132.length : Int) then ((tabs_Pens.f (y132.take 2) (([0, 1] : List Int)) 0).bind fun bt154 => ((tabs_End.f (([(⟨4, 0, 0, 0, false, false⟩ : S31)] : List (S31))) ([] : List Int) 0).bind fun bt161 => ((tabs_Step.f k 4 0 0 (-1) false false 0).bind fun bt163 => ((tabs_End.f (([(⟨0, 0, 0, 1, false, false⟩ : S31)] : List (S31))) ([] : List Int) 4611686018427387904).bind fun bt168 => ((stickfulref12_Same.f k t135 (([0, 5, 8, 13] : List Int))).bind fun t173 => (if t173 = true then (if t136 = 0 then ((stickfulref12_Same.f k t139 (([3, 8, 16, 21] : List Int))).bind fun t177 => (if t177 = true then (if t140 = 0 then ((stickfulref12_Same.f k bt143.1 (([4, 9, 16, 21] : List Int))).bind fun t181 => (if t181 = true then (if bt143.2 = 0 then ((stickfulref12_Same.f k bt154.1 (([0, 5, 5] : List Int))).bind fun t185 => (if t185 = true then (if bt154.2 = 0 then (if bt161.1 = 0 then (if bt161.2 = 0 then (if bt163.2 = 2 then (some (bt168.2 == 10)) else (some false)) else (some false)) else (some false)) else (some false)) else (some false))) else (some false)) else (some false))) else (some false)) else (some false))) else (some false)) else (some false))))))) else (none))) = some r := H
  have A2 := Aside0.mk A20
  clear A20
  replace H := Option.bind_eq_some_iff.mp H
  obtain ⟨⟨t143, t144⟩, A30, H⟩ := H
  replace H : (if 2 ≤ (y132.length : Int) then ((tabs_Pens.f (y132.take 2) (([0, 1] : List Int)) 0).bind fun bt154 => ((tabs_End.f (([(⟨4, 0, 0, 0, false, false⟩ : S31)] : List (S31))) ([] : List Int) 0).bind fun bt161 => ((tabs_Step.f k 4 0 0 (-1) false false 0).bind fun bt163 => ((tabs_End.f (([(⟨0, 0, 0, 1, false, false⟩ : S31)] : List (S31))) ([] : List Int) 4611686018427387904).bind fun bt168 => ((stickfulref12_Same.f k t135 (([0, 5, 8, 13] : List Int))).bind fun t173 => (if t173 = true then (if t136 = 0 then ((stickfulref12_Same.f k t139 (([3, 8, 16, 21] : List Int))).bind fun t177 => (if t177 = true then (if t140 = 0 then ((stickfulref12_Same.f k t143 (([4, 9, 16, 21] : List Int))).bind fun t181 => (if t181 = true then (if t144 = 0 then ((stickfulref12_Same.f k bt154.1 (([0, 5, 5] : List Int))).bind fun t185 => (if t185 = true then (if bt154.2 = 0 then (if bt161.1 = 0 then (if bt161.2 = 0 then (if bt163.2 = 2 then (some (bt168.2 == 10)) else (some false)) else (some false)) else (some false)) else (some false)) else (some false))) else (some false)) else (some false))) else (some false)) else (some false))) else (some false)) else (some false))))))) else (none)) = some r := H
  have A3 := Aside0.mk A30
  clear A30
  by_cases c4 : 2 ≤ (y132.length : Int)
  · rw [if_pos c4] at H
    have c4b0 := eq_true c4
    have c4b1 : decide (2 ≤ (y132.length : Int)) = true := decide_eq_true c4
    clear c4
    obtain ⟨y147, hy147⟩ : ∃ y_ : List (S31), y_ = (y132.take 2) := ⟨_, rfl⟩
    replace H : ((tabs_Pens.f y147 (([0, 1] : List Int)) 0).bind fun bt154 => ((tabs_End.f (([(⟨4, 0, 0, 0, false, false⟩ : S31)] : List (S31))) ([] : List Int) 0).bind fun bt161 => ((tabs_Step.f k 4 0 0 (-1) false false 0).bind fun bt163 => ((tabs_End.f (([(⟨0, 0, 0, 1, false, false⟩ : S31)] : List (S31))) ([] : List Int) 4611686018427387904).bind fun bt168 => ((stickfulref12_Same.f k t135 (([0, 5, 8, 13] : List Int))).bind fun t173 => (if t173 = true then (if t136 = 0 then ((stickfulref12_Same.f k t139 (([3, 8, 16, 21] : List Int))).bind fun t177 => (if t177 = true then (if t140 = 0 then ((stickfulref12_Same.f k t143 (([4, 9, 16, 21] : List Int))).bind fun t181 => (if t181 = true then (if t144 = 0 then ((stickfulref12_Same.f k bt154.1 (([0, 5, 5] : List Int))).bind fun t185 => (if t185 = true then (if bt154.2 = 0 then (if bt161.1 = 0 then (if bt161.2 = 0 then (if bt163.2 = 2 then (some (bt168.2 == 10)) else (some false)) else (some false)) else (some false)) else (some false)) else (some false))) else (some false)) else (some false))) else (some false)) else (some false))) else (some false)) else (some false))))))) = some r := by first | (rw [hy147]; with_reducible exact H) | (have H2_ := (Option.bind_some _ _).symm.trans H; rw [hy147]; with_reducible exact H2_) | (have H2_ := (Option.bind_some _ _).symm.trans H; with_reducible exact H2_) | with_reducible exact H | (rw [hy147]; exact H) | exact H
    have Ny147 := Aside0.mk hy147
    clear hy147
    obtain ⟨y151, hy151⟩ : ∃ y_ : List Int, y_ = (([0, 1] : List Int)) := ⟨_, rfl⟩
    replace H : ((tabs_Pens.f y147 y151 0).bind fun bt154 => ((tabs_End.f (([(⟨4, 0, 0, 0, false, false⟩ : S31)] : List (S31))) ([] : List Int) 0).bind fun bt161 => ((tabs_Step.f k 4 0 0 (-1) false false 0).bind fun bt163 => ((tabs_End.f (([(⟨0, 0, 0, 1, false, false⟩ : S31)] : List (S31))) ([] : List Int) 4611686018427387904).bind fun bt168 => ((stickfulref12_Same.f k t135 (([0, 5, 8, 13] : List Int))).bind fun t173 => (if t173 = true then (if t136 = 0 then ((stickfulref12_Same.f k t139 (([3, 8, 16, 21] : List Int))).bind fun t177 => (if t177 = true then (if t140 = 0 then ((stickfulref12_Same.f k t143 (([4, 9, 16, 21] : List Int))).bind fun t181 => (if t181 = true then (if t144 = 0 then ((stickfulref12_Same.f k bt154.1 (([0, 5, 5] : List Int))).bind fun t185 => (if t185 = true then (if bt154.2 = 0 then (if bt161.1 = 0 then (if bt161.2 = 0 then (if bt163.2 = 2 then (some (bt168.2 == 10)) else (some false)) else (some false)) else (some false)) else (some false)) else (some false))) else (some false)) else (some false))) else (some false)) else (some false))) else (some false)) else (some false))))))) = some r := by first | (rw [hy151]; with_reducible exact H) | (have H2_ := (Option.bind_some _ _).symm.trans H; rw [hy151]; with_reducible exact H2_) | (have H2_ := (Option.bind_some _ _).symm.trans H; with_reducible exact H2_) | with_reducible exact H | (rw [hy151]; exact H) | exact H
    have Ny151 := Aside0.mk hy151
    clear hy151
    replace H := Option.bind_eq_some_iff.mp H
    obtain ⟨⟨t154, t155⟩, A50, H⟩ := H
    replace H : ((tabs_End.f (([(⟨4, 0, 0, 0, false, false⟩ : S31)] : List (S31))) ([] : List Int) 0).bind fun bt161 => ((tabs_Step.f k 4 0 0 (-1) false false 0).bind fun bt163 => ((tabs_End.f (([(⟨0, 0, 0, 1, false, false⟩ : S31)] : List (S31))) ([] : List Int) 4611686018427387904).bind fun bt168 => ((stickfulref12_Same.f k t135 (([0, 5, 8, 13] : List Int))).bind fun t173 => (if t173 = true then (if t136 = 0 then ((stickfulref12_Same.f k t139 (([3, 8, 16, 21] : List Int))).bind fun t177 => (if t177 = true then (if t140 = 0 then ((stickfulref12_Same.f k t143 (([4, 9, 16, 21] : List Int))).bind fun t181 => (if t181 = true then (if t144 = 0 then ((stickfulref12_Same.f k t154 (([0, 5, 5] : List Int))).bind fun t185 => (if t185 = true then (if t155 = 0 then (if bt161.1 = 0 then (if bt161.2 = 0 then (if bt163.2 = 2 then (some (bt168.2 == 10)) else (some false)) else (some false)) else (some false)) else (some false)) else (some false))) else (some false)) else (some false))) else (some false)) else (some false))) else (some false)) else (some false)))))) = some r := H
    have A5 := Aside0.mk A50
    clear A50
    obtain ⟨y158, hy158⟩ : ∃ y_ : List (S31), y_ = (([(⟨4, 0, 0, 0, false, false⟩ : S31)] : List (S31))) := ⟨_, rfl⟩
    replace H : ((tabs_End.f y158 ([] : List Int) 0).bind fun bt161 => ((tabs_Step.f k 4 0 0 (-1) false false 0).bind fun bt163 => ((tabs_End.f (([(⟨0, 0, 0, 1, false, false⟩ : S31)] : List (S31))) ([] : List Int) 4611686018427387904).bind fun bt168 => ((stickfulref12_Same.f k t135 (([0, 5, 8, 13] : List Int))).bind fun t173 => (if t173 = true then (if t136 = 0 then ((stickfulref12_Same.f k t139 (([3, 8, 16, 21] : List Int))).bind fun t177 => (if t177 = true then (if t140 = 0 then ((stickfulref12_Same.f k t143 (([4, 9, 16, 21] : List Int))).bind fun t181 => (if t181 = true then (if t144 = 0 then ((stickfulref12_Same.f k t154 (([0, 5, 5] : List Int))).bind fun t185 => (if t185 = true then (if t155 = 0 then (if bt161.1 = 0 then (if bt161.2 = 0 then (if bt163.2 = 2 then (some (bt168.2 == 10)) else (some false)) else (some false)) else (some false)) else (some false)) else (some false))) else (some false)) else (some false))) else (some false)) else (some false))) else (some false)) else (some false)))))) = some r := by first | (rw [hy158]; with_reducible exact H) | (have H2_ := (Option.bind_some _ _).symm.trans H; rw [hy158]; with_reducible exact H2_) | (have H2_ := (Option.bind_some _ _).symm.trans H; with_reducible exact H2_) | with_reducible exact H | (rw [hy158]; exact H) | exact H
    have Ny158 := Aside0.mk hy158
    clear hy158
    replace H := Option.bind_eq_some_iff.mp H
    obtain ⟨⟨t161, t162⟩, A60, H⟩ := H
    replace H : ((tabs_Step.f k 4 0 0 (-1) false false 0).bind fun bt163 => ((tabs_End.f (([(⟨0, 0, 0, 1, false, false⟩ : S31)] : List (S31))) ([] : List Int) 4611686018427387904).bind fun bt168 => ((stickfulref12_Same.f k t135 (([0, 5, 8, 13] : List Int))).bind fun t173 => (if t173 = true then (if t136 = 0 then ((stickfulref12_Same.f k t139 (([3, 8, 16, 21] : List Int))).bind fun t177 => (if t177 = true then (if t140 = 0 then ((stickfulref12_Same.f k t143 (([4, 9, 16, 21] : List Int))).bind fun t181 => (if t181 = true then (if t144 = 0 then ((stickfulref12_Same.f k t154 (([0, 5, 5] : List Int))).bind fun t185 => (if t185 = true then (if t155 = 0 then (if t161 = 0 then (if t162 = 0 then (if bt163.2 = 2 then (some (bt168.2 == 10)) else (some false)) else (some false)) else (some false)) else (some false)) else (some false))) else (some false)) else (some false))) else (some false)) else (some false))) else (some false)) else (some false))))) = some r := H
    have A6 := Aside0.mk A60
    clear A60
    replace H := Option.bind_eq_some_iff.mp H
    obtain ⟨⟨t163, t164⟩, A70, H⟩ := H
    replace H : ((tabs_End.f (([(⟨0, 0, 0, 1, false, false⟩ : S31)] : List (S31))) ([] : List Int) 4611686018427387904).bind fun bt168 => ((stickfulref12_Same.f k t135 (([0, 5, 8, 13] : List Int))).bind fun t173 => (if t173 = true then (if t136 = 0 then ((stickfulref12_Same.f k t139 (([3, 8, 16, 21] : List Int))).bind fun t177 => (if t177 = true then (if t140 = 0 then ((stickfulref12_Same.f k t143 (([4, 9, 16, 21] : List Int))).bind fun t181 => (if t181 = true then (if t144 = 0 then ((stickfulref12_Same.f k t154 (([0, 5, 5] : List Int))).bind fun t185 => (if t185 = true then (if t155 = 0 then (if t161 = 0 then (if t162 = 0 then (if t164 = 2 then (some (bt168.2 == 10)) else (some false)) else (some false)) else (some false)) else (some false)) else (some false))) else (some false)) else (some false))) else (some false)) else (some false))) else (some false)) else (some false)))) = some r := H
    have A7 := Aside0.mk A70
    clear A70
    obtain ⟨y165, hy165⟩ : ∃ y_ : List (S31), y_ = (([(⟨0, 0, 0, 1, false, false⟩ : S31)] : List (S31))) := ⟨_, rfl⟩
    replace H : ((tabs_End.f y165 ([] : List Int) 4611686018427387904).bind fun bt168 => ((stickfulref12_Same.f k t135 (([0, 5, 8, 13] : List Int))).bind fun t173 => (if t173 = true then (if t136 = 0 then ((stickfulref12_Same.f k t139 (([3, 8, 16, 21] : List Int))).bind fun t177 => (if t177 = true then (if t140 = 0 then ((stickfulref12_Same.f k t143 (([4, 9, 16, 21] : List Int))).bind fun t181 => (if t181 = true then (if t144 = 0 then ((stickfulref12_Same.f k t154 (([0, 5, 5] : List Int))).bind fun t185 => (if t185 = true then (if t155 = 0 then (if t161 = 0 then (if t162 = 0 then (if t164 = 2 then (some (bt168.2 == 10)) else (some false)) else (some false)) else (some false)) else (some false)) else (some false))) else (some false)) else (some false))) else (some false)) else (some false))) else (some false)) else (some false)))) = some r := by first | (rw [hy165]; with_reducible exact H) | (have H2_ := (Option.bind_some _ _).symm.trans H; rw [hy165]; with_reducible exact H2_) | (have H2_ := (Option.bind_some _ _).symm.trans H; with_reducible exact H2_) | with_reducible exact H | (rw [hy165]; exact H) | exact H
    have Ny165 := Aside0.mk hy165
    clear hy165
    replace H := Option.bind_eq_some_iff.mp H
    obtain ⟨⟨t168, t169⟩, A80, H⟩ := H
    replace H : ((stickfulref12_Same.f k t135 (([0, 5, 8, 13] : List Int))).bind fun t173 => (if t173 = true then (if t136 = 0 then ((stickfulref12_Same.f k t139 (([3, 8, 16, 21] : List Int))).bind fun t177 => (if t177 = true then (if t140 = 0 then ((stickfulref12_Same.f k t143 (([4, 9, 16, 21] : List Int))).bind fun t181 => (if t181 = true then (if t144 = 0 then ((stickfulref12_Same.f k t154 (([0, 5, 5] : List Int))).bind fun t185 => (if t185 = true then (if t155 = 0 then (if t161 = 0 then (if t162 = 0 then (if t164 = 2 then (some (t169 == 10)) else (some false)) else (some false)) else (some false)) else (some false)) else (some false))) else (some false)) else (some false))) else (some false)) else (some false))) else (some false)) else (some false))) = some r := H
    have A8 := Aside0.mk A80
    clear A80
    obtain ⟨y170, hy170⟩ : ∃ y_ : List Int, y_ = (([0, 5, 8, 13] : List Int)) := ⟨_, rfl⟩
    replace H : ((stickfulref12_Same.f k t135 y170).bind fun t173 => (if t173 = true then (if t136 = 0 then ((stickfulref12_Same.f k t139 (([3, 8, 16, 21] : List Int))).bind fun t177 => (if t177 = true then (if t140 = 0 then ((stickfulref12_Same.f k t143 (([4, 9, 16, 21] : List Int))).bind fun t181 => (if t181 = true then (if t144 = 0 then ((stickfulref12_Same.f k t154 (([0, 5, 5] : List Int))).bind fun t185 => (if t185 = true then (if t155 = 0 then (if t161 = 0 then (if t162 = 0 then (if t164 = 2 then (some (t169 == 10)) else (some false)) else (some false)) else (some false)) else (some false)) else (some false))) else (some false)) else (some false))) else (some false)) else (some false))) else (some false)) else (some false))) = some r := by first | (rw [hy170]; with_reducible exact H) | (have H2_ := (Option.bind_some _ _).symm.trans H; rw [hy170]; with_reducible exact H2_) | (have H2_ := (Option.bind_some _ _).symm.trans H; with_reducible exact H2_) | with_reducible exact H | (rw [hy170]; exact H) | exact H
    have Ny170 := Aside0.mk hy170
    clear hy170
    replace H := Option.bind_eq_some_iff.mp H
    obtain ⟨t173, A90, H⟩ := H
    replace H : (if t173 = true then (if t136 = 0 then ((stickfulref12_Same.f k t139 (([3, 8, 16, 21] : List Int))).bind fun t177 => (if t177 = true then (if t140 = 0 then ((stickfulref12_Same.f k t143 (([4, 9, 16, 21] : List Int))).bind fun t181 => (if t181 = true then (if t144 = 0 then ((stickfulref12_Same.f k t154 (([0, 5, 5] : List Int))).bind fun t185 => (if t185 = true then (if t155 = 0 then (if t161 = 0 then (if t162 = 0 then (if t164 = 2 then (some (t169 == 10)) else (some false)) else (some false)) else (some false)) else (some false)) else (some false))) else (some false)) else (some false))) else (some false)) else (some false))) else (some false)) else (some false)) = some r := H
    have A9 := Aside0.mk A90
    clear A90
    by_cases c10 : t173 = true
    · subst c10
      have H1 : (if t136 = 0 then ((stickfulref12_Same.f k t139 (([3, 8, 16, 21] : List Int))).bind fun t177 => (if t177 = true then (if t140 = 0 then ((stickfulref12_Same.f k t143 (([4, 9, 16, 21] : List Int))).bind fun t181 => (if t181 = true then (if t144 = 0 then ((stickfulref12_Same.f k t154 (([0, 5, 5] : List Int))).bind fun t185 => (if t185 = true then (if t155 = 0 then (if t161 = 0 then (if t162 = 0 then (if t164 = 2 then (some (t169 == 10)) else (some false)) else (some false)) else (some false)) else (some false)) else (some false))) else (some false)) else (some false))) else (some false)) else (some false))) else (some false)) = some r := by rw [if_pos rfl] at H; exact H
      clear H
      have H := H1
      clear H1
      by_cases c11 : t136 = 0
      · rw [if_pos c11] at H
        have c11b0 : (t136 == 0) = true := beq_iff_eq.mpr c11
        have c11b1 : (t136 != 0) = false := bne_eq_false_iff_eq.mpr c11
        clear c11
        obtain ⟨y174, hy174⟩ : ∃ y_ : List Int, y_ = (([3, 8, 16, 21] : List Int)) := ⟨_, rfl⟩
        replace H : ((stickfulref12_Same.f k t139 y174).bind fun t177 => (if t177 = true then (if t140 = 0 then ((stickfulref12_Same.f k t143 (([4, 9, 16, 21] : List Int))).bind fun t181 => (if t181 = true then (if t144 = 0 then ((stickfulref12_Same.f k t154 (([0, 5, 5] : List Int))).bind fun t185 => (if t185 = true then (if t155 = 0 then (if t161 = 0 then (if t162 = 0 then (if t164 = 2 then (some (t169 == 10)) else (some false)) else (some false)) else (some false)) else (some false)) else (some false))) else (some false)) else (some false))) else (some false)) else (some false))) = some r := by first | (rw [hy174]; with_reducible exact H) | (have H2_ := (Option.bind_some _ _).symm.trans H; rw [hy174]; with_reducible exact H2_) | (have H2_ := (Option.bind_some _ _).symm.trans H; with_reducible exact H2_) | with_reducible exact H | (rw [hy174]; exact H) | exact H
        have Ny174 := Aside0.mk hy174
        clear hy174
        replace H := Option.bind_eq_some_iff.mp H
        obtain ⟨t177, A120, H⟩ := H
        replace H : (if t177 = true then (if t140 = 0 then ((stickfulref12_Same.f k t143 (([4, 9, 16, 21] : List Int))).bind fun t181 => (if t181 = true then (if t144 = 0 then ((stickfulref12_Same.f k t154 (([0, 5, 5] : List Int))).bind fun t185 => (if t185 = true then (if t155 = 0 then (if t161 = 0 then (if t162 = 0 then (if t164 = 2 then (some (t169 == 10)) else (some false)) else (some false)) else (some false)) else (some false)) else (some false))) else (some false)) else (some false))) else (some false)) else (some false)) = some r := H
        have A12 := Aside0.mk A120
        clear A120
        by_cases c13 : t177 = true
        · subst c13
          have H1 : (if t140 = 0 then ((stickfulref12_Same.f k t143 (([4, 9, 16, 21] : List Int))).bind fun t181 => (if t181 = true then (if t144 = 0 then ((stickfulref12_Same.f k t154 (([0, 5, 5] : List Int))).bind fun t185 => (if t185 = true then (if t155 = 0 then (if t161 = 0 then (if t162 = 0 then (if t164 = 2 then (some (t169 == 10)) else (some false)) else (some false)) else (some false)) else (some false)) else (some false))) else (some false)) else (some false))) else (some false)) = some r := by rw [if_pos rfl] at H; exact H
          clear H
          have H := H1
          clear H1
          by_cases c14 : t140 = 0
          · rw [if_pos c14] at H
            have c14b0 : (t140 == 0) = true := beq_iff_eq.mpr c14
            have c14b1 : (t140 != 0) = false := bne_eq_false_iff_eq.mpr c14
            clear c14
            obtain ⟨y178, hy178⟩ : ∃ y_ : List Int, y_ = (([4, 9, 16, 21] : List Int)) := ⟨_, rfl⟩
            replace H : ((stickfulref12_Same.f k t143 y178).bind fun t181 => (if t181 = true then (if t144 = 0 then ((stickfulref12_Same.f k t154 (([0, 5, 5] : List Int))).bind fun t185 => (if t185 = true then (if t155 = 0 then (if t161 = 0 then (if t162 = 0 then (if t164 = 2 then (some (t169 == 10)) else (some false)) else (some false)) else (some false)) else (some false)) else (some false))) else (some false)) else (some false))) = some r := by first | (rw [hy178]; with_reducible exact H) | (have H2_ := (Option.bind_some _ _).symm.trans H; rw [hy178]; with_reducible exact H2_) | (have H2_ := (Option.bind_some _ _).symm.trans H; with_reducible exact H2_) | with_reducible exact H | (rw [hy178]; exact H) | exact H
            have Ny178 := Aside0.mk hy178
            clear hy178
            replace H := Option.bind_eq_some_iff.mp H
            obtain ⟨t181, A150, H⟩ := H
            replace H : (if t181 = true then (if t144 = 0 then ((stickfulref12_Same.f k t154 (([0, 5, 5] : List Int))).bind fun t185 => (if t185 = true then (if t155 = 0 then (if t161 = 0 then (if t162 = 0 then (if t164 = 2 then (some (t169 == 10)) else (some false)) else (some false)) else (some false)) else (some false)) else (some false))) else (some false)) else (some false)) = some r := H
            have A15 := Aside0.mk A150
            clear A150
            by_cases c16 : t181 = true
            · subst c16
              have H1 : (if t144 = 0 then ((stickfulref12_Same.f k t154 (([0, 5, 5] : List Int))).bind fun t185 => (if t185 = true then (if t155 = 0 then (if t161 = 0 then (if t162 = 0 then (if t164 = 2 then (some (t169 == 10)) else (some false)) else (some false)) else (some false)) else (some false)) else (some false))) else (some false)) = some r := by rw [if_pos rfl] at H; exact H
              clear H
              have H := H1
              clear H1
              by_cases c17 : t144 = 0
              · rw [if_pos c17] at H
                have c17b0 : (t144 == 0) = true := beq_iff_eq.mpr c17
                have c17b1 : (t144 != 0) = false := bne_eq_false_iff_eq.mpr c17
                clear c17
                obtain ⟨y182, hy182⟩ : ∃ y_ : List Int, y_ = (([0, 5, 5] : List Int)) := ⟨_, rfl⟩
                replace H : ((stickfulref12_Same.f k t154 y182).bind fun t185 => (if t185 = true then (if t155 = 0 then (if t161 = 0 then (if t162 = 0 then (if t164 = 2 then (some (t169 == 10)) else (some false)) else (some false)) else (some false)) else (some false)) else (some false))) = some r := by first | (rw [hy182]; with_reducible exact H) | (have H2_ := (Option.bind_some _ _).symm.trans H; rw [hy182]; with_reducible exact H2_) | (have H2_ := (Option.bind_some _ _).symm.trans H; with_reducible exact H2_) | with_reducible exact H | (rw [hy182]; exact H) | exact H
                have Ny182 := Aside0.mk hy182
                clear hy182
                replace H := Option.bind_eq_some_iff.mp H
                obtain ⟨t185, A180, H⟩ := H
                replace H : (if t185 = true then (if t155 = 0 then (if t161 = 0 then (if t162 = 0 then (if t164 = 2 then (some (t169 == 10)) else (some false)) else (some false)) else (some false)) else (some false)) else (some false)) = some r := H
                have A18 := Aside0.mk A180
                clear A180
                by_cases c19 : t185 = true
                · subst c19
                  have H1 : (if t155 = 0 then (if t161 = 0 then (if t162 = 0 then (if t164 = 2 then (some (t169 == 10)) else (some false)) else (some false)) else (some false)) else (some false)) = some r := by rw [if_pos rfl] at H; exact H
                  clear H
                  have H := H1
                  clear H1
                  by_cases c20 : t155 = 0
                  · rw [if_pos c20] at H
                    have c20b0 : (t155 == 0) = true := beq_iff_eq.mpr c20
                    have c20b1 : (t155 != 0) = false := bne_eq_false_iff_eq.mpr c20
                    clear c20
                    by_cases c21 : t161 = 0
                    · rw [if_pos c21] at H
                      have c21b0 : (t161 == 0) = true := beq_iff_eq.mpr c21
                      have c21b1 : (t161 != 0) = false := bne_eq_false_iff_eq.mpr c21
                      clear c21
                      by_cases c22 : t162 = 0
                      · rw [if_pos c22] at H
                        have c22b0 : (t162 == 0) = true := beq_iff_eq.mpr c22
                        have c22b1 : (t162 != 0) = false := bne_eq_false_iff_eq.mpr c22
                        clear c22
                        by_cases c23 : t164 = 2
                        · rw [if_pos c23] at H
                          have c23b0 : (t164 == 2) = true := beq_iff_eq.mpr c23
                          have c23b1 : (t164 != 2) = false := bne_eq_false_iff_eq.mpr c23
                          clear c23
                          obtain rfl := Option.some.inj H
                          go_enter Try.func7, Try.ntmps7
                          go_wp2_with (first | ((with_reducible refine gate_dst (N := 19) rfl ?_); (try (refine gate_guard (by rfl) ?_; dsimp only)); refine Kd.R_lit k31 _ 31 ?hg (N := 19) ?hd (xs := ([(⟨0, 0, 0, 5, false, false⟩ : S31), (⟨4, 0, 0, 8, false, false⟩ : S31), (⟨0, 0, 0, 5, false, false⟩ : S31)] : List (S31))) (inner := [.int .u8 0, .int .i64 0, .int .i64 0, .int .i64 5, .bool false, .bool false, .int .u8 4, .int .i64 0, .int .i64 0, .int .i64 8, .bool false, .bool false, .int .u8 0, .int .i64 0, .int .i64 0, .int .i64 5, .bool false, .bool false]) (ok := fun _ => True) (okp := fun _ => True) ?hr ?hp (fun _ hk => hk) trivial (Below.refl _ _) (Nat.le_refl _) (by simp) ?_; (case hd => rfl); (case hg => rfl); (case hr => first | (go_simp; done) | (go_simp; rfl)); (case hp => exact (Reps.c6 (show Kd.M k31 _ _ _ (⟨0, 0, 0, 5, false, false⟩ : S31) [.int .u8 0, .int .i64 0, .int .i64 0, .int .i64 5, .bool false, .bool false] from (k31_mkM _ _ _ (⟨0, 0, 0, 5, false, false⟩ : S31) )) (Reps.c6 (show Kd.M k31 _ _ _ (⟨4, 0, 0, 8, false, false⟩ : S31) [.int .u8 4, .int .i64 0, .int .i64 0, .int .i64 8, .bool false, .bool false] from (k31_mkM _ _ _ (⟨4, 0, 0, 8, false, false⟩ : S31) )) (Reps.c6 (show Kd.M k31 _ _ _ (⟨0, 0, 0, 5, false, false⟩ : S31) [.int .u8 0, .int .i64 0, .int .i64 0, .int .i64 5, .bool false, .bool false] from (k31_mkM _ _ _ (⟨0, 0, 0, 5, false, false⟩ : S31) )) (Reps.none _ _))))); intro v133 w24 ho25 hb hg_ hnew_; clear hg_ hnew_; (first | rw [← Ny132.out] at ho25 | (simp only [Int.reduceToNat] at ho25; rw [← Ny132.out] at ho25)); have HO134 := Aside0.mk (Kd.R_lower ho25 (below_size (bw HB))); replace HB := bh HB hb; clear hb ho25; obtain ⟨Ao26, co26, eo26⟩ := Kd.R_slice HO134.out; subst eo26) | ((with_reducible refine gate_callee (f := 8) rfl ?_); refine goesB (some 22) rfl rfl Try.func8 #[.slice Ao26 y132.length co26, .slice none 0 0, .int .i64 0] rfl ?_; (refine (tabs_Pens.calls _ _ y132 _ _ ([] : List Int) 0 t135 t136 _ ?side1 ?side2 ?side3 ?side4 A1.out).mono ?_); (case side1 => repeat (first | exact (Kd.R_reads' HO134.out).2.2 | (with_reducible refine Kd.C_alloc ?_ _) | (with_reducible refine Kd.C_drewN ?_ _) | (with_reducible refine Kd.C_drew ?_))); (case side2 => exact (Kd.R_reads' HO134.out).2.1); (case side3 => exact Kd.C_nil _ _); (case side4 => exact Nat.le_refl _); rintro e w27 ⟨v137, rfl, ho0, hb⟩; refine ⟨_, rfl, ?_⟩; replace HO134 := Aside0.mk (Kd.R_below (rx HO134) hb); have HO138 := Aside0.mk (Kd.R_lower ho0 (below_size (bw HB))); replace HB := bh HB hb; (try clear hb); (try clear hb2); (try clear hk); (try clear hi); (try clear ho0)) | ((with_reducible refine gate_callee (f := 8) rfl ?_); refine goesB (some 27) rfl rfl Try.func8 #[.slice Ao26 y132.length co26, .slice none 0 0, .int .i64 3] rfl ?_; (refine (tabs_Pens.calls _ _ y132 _ _ ([] : List Int) 3 t139 t140 _ ?side1 ?side2 ?side3 ?side4 A2.out).mono ?_); (case side1 => repeat (first | exact (Kd.R_reads' HO134.out).2.2 | (with_reducible refine Kd.C_alloc ?_ _) | (with_reducible refine Kd.C_drewN ?_ _) | (with_reducible refine Kd.C_drew ?_))); (case side2 => exact (Kd.R_reads' HO134.out).2.1); (case side3 => exact Kd.C_nil _ _); (case side4 => exact Nat.le_refl _); rintro e w28 ⟨v141, rfl, ho0, hb⟩; refine ⟨_, rfl, ?_⟩; replace HO134 := Aside0.mk (Kd.R_below (rx HO134) hb); have HO142 := Aside0.mk (Kd.R_lower (Kd.R_new' ho0 (Kd.R_lt (rx HO138))) (below_size (bw HB))); replace HO138 := Aside0.mk (Kd.R_elder' (rx HO138) (Kd.R_base ho0) hb); replace HB := bh HB hb; (try clear hb); (try clear hb2); (try clear hk); (try clear hi); (try clear ho0)) | ((with_reducible refine gate_callee (f := 8) rfl ?_); refine goesB (some 32) rfl rfl Try.func8 #[.slice Ao26 y132.length co26, .slice none 0 0, .int .i64 4] rfl ?_; (refine (tabs_Pens.calls _ _ y132 _ _ ([] : List Int) 4 t143 t144 _ ?side1 ?side2 ?side3 ?side4 A3.out).mono ?_); (case side1 => repeat (first | exact (Kd.R_reads' HO134.out).2.2 | (with_reducible refine Kd.C_alloc ?_ _) | (with_reducible refine Kd.C_drewN ?_ _) | (with_reducible refine Kd.C_drew ?_))); (case side2 => exact (Kd.R_reads' HO134.out).2.1); (case side3 => exact Kd.C_nil _ _); (case side4 => exact Nat.le_refl _); rintro e w29 ⟨v145, rfl, ho0, hb⟩; refine ⟨_, rfl, ?_⟩; replace HO134 := Aside0.mk (Kd.R_below (rx HO134) hb); have HO146 := Aside0.mk (Kd.R_lower (Kd.R_new' (Kd.R_new' ho0 (Kd.R_lt (rx HO138))) (Kd.R_lt (rx HO142))) (below_size (bw HB))); replace HO138 := Aside0.mk (Kd.R_elder' (rx HO138) (Kd.R_base ho0) hb); replace HO142 := Aside0.mk (Kd.R_elder' (rx HO142) (Kd.R_base ho0) hb); replace HB := bh HB hb; (try clear hb); (try clear hb2); (try clear hk); (try clear hi); (try clear ho0); have q30 : (2 : Int) ≤ ((y132.length : Int) : Int) := of_decide_eq_true (by first | (with_reducible assumption) | assumption); obtain ⟨i030, hi030, _, hsz30, _⟩ := info_parts info31; have hroom30 : y132.length ≤ co26 := (Kd.R_reads' HO134.out).2.1; have hC30 : Kd.C k31 _ Ao26 y132.length y132 := (Kd.R_reads' HO134.out).2.2; have hcut30 := cut_to (P := Try.prog) 22 31 .i64 Try.underlying22 hi030 Ao26 y132.length co26 2 (by omega) q30 hroom30; have hr30 := Kd.C_take (m := 2) hC30 (by omega); have hy30 : y147.length = (2 : Int).toNat := (by rw [Ny147.out, List.length_take]; omega); rw [← Ny147.out] at hr30; rw [← hy30] at hcut30; have HR150 := Aside0.mk hr30; have HC150 := Aside0.mk (show y147.length ≤ co26 from by omega); clear hr30 hC30 hroom30 hi030 hsz30; have KY30 := Aside0.mk hy30; clear hy30; have KL30 := Aside0.mk (show 2 ≤ y132.length from by omega); replace q30 := eq_true q30) | ((with_reducible refine gate_dst (N := 38) rfl ?_); (try (refine gate_guard (by rfl) ?_; dsimp only)); refine Kd.R_lit (Kd.int .u8) _ 5 ?hg (N := 38) ?hd (xs := ([0, 1] : List Int)) (inner := [.int .u8 0, .int .u8 1]) (ok := fun _ => True) (okp := fun _ => True) ?hr ?hp (fun _ hk => hk) trivial (Below.refl _ _) (Nat.le_refl _) (by simp) ?_; (case hd => rfl); (case hg => rfl); (case hr => first | (go_simp; done) | (go_simp; rfl)); (case hp => exact (Reps.one (show Kd.M (Kd.int .u8) _ _ _ 0 [.int .u8 0] from rfl) (Reps.one (show Kd.M (Kd.int .u8) _ _ _ 1 [.int .u8 1] from rfl) (Reps.none _ _)))); intro v152 w31 ho32 hb hg_ hnew_; clear hg_ hnew_; (first | rw [← Ny151.out] at ho32 | (simp only [Int.reduceToNat] at ho32; rw [← Ny151.out] at ho32)); replace HO134 := Aside0.mk (Kd.R_below (rx HO134) hb); replace HO138 := Aside0.mk (Kd.R_below (rx HO138) hb); replace HO142 := Aside0.mk (Kd.R_below (rx HO142) hb); replace HO146 := Aside0.mk (Kd.R_below (rx HO146) hb); have HO153 := Aside0.mk (Kd.R_lower ho32 (below_size (bw HB))); replace HR150 := Aside0.mk (Kd.C_below (by repeat (first | (with_reducible exact HR150.out) | (with_reducible refine Kd.C_alloc ?_ _) | (with_reducible refine Kd.C_drewN ?_ _) | (with_reducible refine Kd.C_drew ?_) | exact HR150.out)) hb); replace HB := bh HB hb; clear hb ho32; obtain ⟨Ao33, co33, eo33⟩ := Kd.R_slice HO153.out; subst eo33) | ((with_reducible refine gate_callee (f := 8) rfl ?_); refine goesB (some 39) rfl rfl Try.func8 #[.slice Ao26 y147.length co26, .slice Ao33 y151.length co33, .int .i64 0] rfl ?_; (with_reducible refine (tabs_Pens.calls _ _ y147 _ _ y151 0 t154 t155 _ ?side1 ?side2 ?side3 ?side4 A5.out).mono ?_); (case side1 => repeat (first | exact (by repeat (first | (with_reducible exact HR150.out) | (with_reducible refine Kd.C_alloc ?_ _) | (with_reducible refine Kd.C_drewN ?_ _) | (with_reducible refine Kd.C_drew ?_) | exact HR150.out)) | (with_reducible refine Kd.C_alloc ?_ _) | (with_reducible refine Kd.C_drewN ?_ _) | (with_reducible refine Kd.C_drew ?_))); (case side2 => exact HC150.out); (case side3 => repeat (first | exact (Kd.R_reads' HO153.out).2.2 | (with_reducible refine Kd.C_alloc ?_ _) | (with_reducible refine Kd.C_drewN ?_ _) | (with_reducible refine Kd.C_drew ?_))); (case side4 => exact (Kd.R_reads' HO153.out).2.1); rintro e w34 ⟨v156, rfl, ho0, hb⟩; refine ⟨_, rfl, ?_⟩; replace HO134 := Aside0.mk (Kd.R_below (rx HO134) hb); replace HO153 := Aside0.mk (Kd.R_below (rx HO153) hb); have HO157 := Aside0.mk (Kd.R_lower (Kd.R_new' (Kd.R_new' (Kd.R_new' ho0 (Kd.R_lt (rx HO138))) (Kd.R_lt (rx HO142))) (Kd.R_lt (rx HO146))) (below_size (bw HB))); replace HO138 := Aside0.mk (Kd.R_elder' (rx HO138) (Kd.R_base ho0) hb); replace HO142 := Aside0.mk (Kd.R_elder' (rx HO142) (Kd.R_base ho0) hb); replace HO146 := Aside0.mk (Kd.R_elder' (rx HO146) (Kd.R_base ho0) hb); replace HR150 := Aside0.mk (Kd.C_below (by repeat (first | (with_reducible exact HR150.out) | (with_reducible refine Kd.C_alloc ?_ _) | (with_reducible refine Kd.C_drewN ?_ _) | (with_reducible refine Kd.C_drew ?_) | exact HR150.out)) hb); replace HB := bh HB hb; (try clear hb); (try clear hb2); (try clear hk); (try clear hi); (try clear ho0)) | ((with_reducible refine gate_dst (N := 44) rfl ?_); (try (refine gate_guard (by rfl) ?_; dsimp only)); refine Kd.R_lit k31 _ 31 ?hg (N := 44) ?hd (xs := ([(⟨4, 0, 0, 0, false, false⟩ : S31)] : List (S31))) (inner := [.int .u8 4, .int .i64 0, .int .i64 0, .int .i64 0, .bool false, .bool false]) (ok := fun _ => True) (okp := fun _ => True) ?hr ?hp (fun _ hk => hk) trivial (Below.refl _ _) (Nat.le_refl _) (by simp) ?_; (case hd => rfl); (case hg => rfl); (case hr => first | (go_simp; done) | (go_simp; rfl)); (case hp => exact (Reps.c6 (show Kd.M k31 _ _ _ (⟨4, 0, 0, 0, false, false⟩ : S31) [.int .u8 4, .int .i64 0, .int .i64 0, .int .i64 0, .bool false, .bool false] from (k31_mkM _ _ _ (⟨4, 0, 0, 0, false, false⟩ : S31) )) (Reps.none _ _))); intro v159 w35 ho36 hb hg_ hnew_; clear hg_ hnew_; (first | rw [← Ny158.out] at ho36 | (simp only [Int.reduceToNat] at ho36; rw [← Ny158.out] at ho36)); replace HO138 := Aside0.mk (Kd.R_below (rx HO138) hb); replace HO142 := Aside0.mk (Kd.R_below (rx HO142) hb); replace HO146 := Aside0.mk (Kd.R_below (rx HO146) hb); replace HO153 := Aside0.mk (Kd.R_below (rx HO153) hb); replace HO157 := Aside0.mk (Kd.R_below (rx HO157) hb); have HO160 := Aside0.mk (Kd.R_lower (Kd.R_new' ho36 (Kd.R_lt (rx HO134))) (below_size (bw HB))); replace HO134 := Aside0.mk (Kd.R_elder' (rx HO134) (Kd.R_base ho36) hb); replace HR150 := Aside0.mk (Kd.C_below (by repeat (first | (with_reducible exact HR150.out) | (with_reducible refine Kd.C_alloc ?_ _) | (with_reducible refine Kd.C_drewN ?_ _) | (with_reducible refine Kd.C_drew ?_) | exact HR150.out)) hb); replace HB := bh HB hb; clear hb ho36; obtain ⟨Ao37, co37, eo37⟩ := Kd.R_slice HO160.out; subst eo37) | ((with_reducible refine gate_callee (f := 10) rfl ?_); refine goesB (some 45) rfl rfl Try.func10 #[.slice Ao37 y158.length co37, .slice none 0 0, .int .i64 0] rfl ?_; (refine (tabs_End.calls _ _ y158 _ _ ([] : List Int) 0 t161 t162 _ ?side1 ?side2 ?side3 ?side4 A6.out).mono ?_); (case side1 => repeat (first | exact (Kd.R_reads' HO160.out).2.2 | (with_reducible refine Kd.C_alloc ?_ _) | (with_reducible refine Kd.C_drewN ?_ _) | (with_reducible refine Kd.C_drew ?_))); (case side2 => exact (Kd.R_reads' HO160.out).2.1); (case side3 => exact Kd.C_nil _ _); (case side4 => exact Nat.le_refl _); rintro e w38 ⟨rfl, hb⟩; refine ⟨_, rfl, ?_⟩; replace HO134 := Aside0.mk (Kd.R_below (rx HO134) hb); replace HO138 := Aside0.mk (Kd.R_below (rx HO138) hb); replace HO142 := Aside0.mk (Kd.R_below (rx HO142) hb); replace HO146 := Aside0.mk (Kd.R_below (rx HO146) hb); replace HO153 := Aside0.mk (Kd.R_below (rx HO153) hb); replace HO157 := Aside0.mk (Kd.R_below (rx HO157) hb); replace HO160 := Aside0.mk (Kd.R_below (rx HO160) hb); replace HR150 := Aside0.mk (Kd.C_below (by repeat (first | (with_reducible exact HR150.out) | (with_reducible refine Kd.C_alloc ?_ _) | (with_reducible refine Kd.C_drewN ?_ _) | (with_reducible refine Kd.C_drew ?_) | exact HR150.out)) hb); replace HB := bh HB hb; (try clear hb); (try clear hb2); (try clear hk); (try clear hi)) | ((with_reducible refine gate_callee (f := 11) rfl ?_); refine goesB (some 50) rfl rfl Try.func11 #[.agg #[.int .u8 4, .int .i64 0, .int .i64 0, .int .i64 (-1), .bool false, .bool false], .int .i64 0] rfl ?_; (with_reducible refine (tabs_Step.calls k 4 0 0 (-1) false false 0 t163 t164 _ A7.out).mono ?_); rintro e w39 ⟨rfl, hb⟩; refine ⟨_, rfl, ?_⟩; replace HO134 := Aside0.mk (Kd.R_below (rx HO134) hb); replace HO138 := Aside0.mk (Kd.R_below (rx HO138) hb); replace HO142 := Aside0.mk (Kd.R_below (rx HO142) hb); replace HO146 := Aside0.mk (Kd.R_below (rx HO146) hb); replace HO153 := Aside0.mk (Kd.R_below (rx HO153) hb); replace HO157 := Aside0.mk (Kd.R_below (rx HO157) hb); replace HO160 := Aside0.mk (Kd.R_below (rx HO160) hb); replace HR150 := Aside0.mk (Kd.C_below (by repeat (first | (with_reducible exact HR150.out) | (with_reducible refine Kd.C_alloc ?_ _) | (with_reducible refine Kd.C_drewN ?_ _) | (with_reducible refine Kd.C_drew ?_) | exact HR150.out)) hb); replace HB := bh HB hb; (try clear hb); (try clear hb2); (try clear hk); (try clear hi)) | ((with_reducible refine gate_dst (N := 55) rfl ?_); (try (refine gate_guard (by rfl) ?_; dsimp only)); refine Kd.R_lit k31 _ 31 ?hg (N := 55) ?hd (xs := ([(⟨0, 0, 0, 1, false, false⟩ : S31)] : List (S31))) (inner := [.int .u8 0, .int .i64 0, .int .i64 0, .int .i64 1, .bool false, .bool false]) (ok := fun _ => True) (okp := fun _ => True) ?hr ?hp (fun _ hk => hk) trivial (Below.refl _ _) (Nat.le_refl _) (by simp) ?_; (case hd => rfl); (case hg => rfl); (case hr => first | (go_simp; done) | (go_simp; rfl)); (case hp => exact (Reps.c6 (show Kd.M k31 _ _ _ (⟨0, 0, 0, 1, false, false⟩ : S31) [.int .u8 0, .int .i64 0, .int .i64 0, .int .i64 1, .bool false, .bool false] from (k31_mkM _ _ _ (⟨0, 0, 0, 1, false, false⟩ : S31) )) (Reps.none _ _))); intro v166 w40 ho41 hb hg_ hnew_; clear hg_ hnew_; (first | rw [← Ny165.out] at ho41 | (simp only [Int.reduceToNat] at ho41; rw [← Ny165.out] at ho41)); replace HO138 := Aside0.mk (Kd.R_below (rx HO138) hb); replace HO142 := Aside0.mk (Kd.R_below (rx HO142) hb); replace HO146 := Aside0.mk (Kd.R_below (rx HO146) hb); replace HO153 := Aside0.mk (Kd.R_below (rx HO153) hb); replace HO157 := Aside0.mk (Kd.R_below (rx HO157) hb); have HO167 := Aside0.mk (Kd.R_lower (Kd.R_new' (Kd.R_new' ho41 (Kd.R_lt (rx HO134))) (Kd.R_lt (rx HO160))) (below_size (bw HB))); replace HO134 := Aside0.mk (Kd.R_elder' (rx HO134) (Kd.R_base ho41) hb); replace HO160 := Aside0.mk (Kd.R_elder' (rx HO160) (Kd.R_base ho41) hb); replace HR150 := Aside0.mk (Kd.C_below (by repeat (first | (with_reducible exact HR150.out) | (with_reducible refine Kd.C_alloc ?_ _) | (with_reducible refine Kd.C_drewN ?_ _) | (with_reducible refine Kd.C_drew ?_) | exact HR150.out)) hb); replace HB := bh HB hb; clear hb ho41; obtain ⟨Ao42, co42, eo42⟩ := Kd.R_slice HO167.out; subst eo42) | ((with_reducible refine gate_callee (f := 10) rfl ?_); refine goesB (some 56) rfl rfl Try.func10 #[.slice Ao42 y165.length co42, .slice none 0 0, .int .i64 4611686018427387904] rfl ?_; (refine (tabs_End.calls _ _ y165 _ _ ([] : List Int) 4611686018427387904 t168 t169 _ ?side1 ?side2 ?side3 ?side4 A8.out).mono ?_); (case side1 => repeat (first | exact (Kd.R_reads' HO167.out).2.2 | (with_reducible refine Kd.C_alloc ?_ _) | (with_reducible refine Kd.C_drewN ?_ _) | (with_reducible refine Kd.C_drew ?_))); (case side2 => exact (Kd.R_reads' HO167.out).2.1); (case side3 => exact Kd.C_nil _ _); (case side4 => exact Nat.le_refl _); rintro e w43 ⟨rfl, hb⟩; refine ⟨_, rfl, ?_⟩; replace HO134 := Aside0.mk (Kd.R_below (rx HO134) hb); replace HO138 := Aside0.mk (Kd.R_below (rx HO138) hb); replace HO142 := Aside0.mk (Kd.R_below (rx HO142) hb); replace HO146 := Aside0.mk (Kd.R_below (rx HO146) hb); replace HO153 := Aside0.mk (Kd.R_below (rx HO153) hb); replace HO157 := Aside0.mk (Kd.R_below (rx HO157) hb); replace HO160 := Aside0.mk (Kd.R_below (rx HO160) hb); replace HO167 := Aside0.mk (Kd.R_below (rx HO167) hb); replace HR150 := Aside0.mk (Kd.C_below (by repeat (first | (with_reducible exact HR150.out) | (with_reducible refine Kd.C_alloc ?_ _) | (with_reducible refine Kd.C_drewN ?_ _) | (with_reducible refine Kd.C_drew ?_) | exact HR150.out)) hb); replace HB := bh HB hb; (try clear hb); (try clear hb2); (try clear hk); (try clear hi)) | ((with_reducible refine gate_dst (N := 60) rfl ?_); (try (refine gate_guard (by rfl) ?_; dsimp only)); refine Kd.R_lit (Kd.int .i64) _ 2 ?hg (N := 60) ?hd (xs := ([0, 5, 8, 13] : List Int)) (inner := [.int .i64 0, .int .i64 5, .int .i64 8, .int .i64 13]) (ok := fun _ => True) (okp := fun _ => True) ?hr ?hp (fun _ hk => hk) trivial (Below.refl _ _) (Nat.le_refl _) (by simp) ?_; (case hd => rfl); (case hg => rfl); (case hr => first | (go_simp; done) | (go_simp; rfl)); (case hp => exact (Reps.one (show Kd.M (Kd.int .i64) _ _ _ 0 [.int .i64 0] from rfl) (Reps.one (show Kd.M (Kd.int .i64) _ _ _ 5 [.int .i64 5] from rfl) (Reps.one (show Kd.M (Kd.int .i64) _ _ _ 8 [.int .i64 8] from rfl) (Reps.one (show Kd.M (Kd.int .i64) _ _ _ 13 [.int .i64 13] from rfl) (Reps.none _ _)))))); intro v171 w44 ho45 hb hg_ hnew_; clear hg_ hnew_; (first | rw [← Ny170.out] at ho45 | (simp only [Int.reduceToNat] at ho45; rw [← Ny170.out] at ho45)); replace HO134 := Aside0.mk (Kd.R_below (rx HO134) hb); replace HO153 := Aside0.mk (Kd.R_below (rx HO153) hb); replace HO160 := Aside0.mk (Kd.R_below (rx HO160) hb); replace HO167 := Aside0.mk (Kd.R_below (rx HO167) hb); have HO172 := Aside0.mk (Kd.R_lower (Kd.R_new' (Kd.R_new' (Kd.R_new' (Kd.R_new' ho45 (Kd.R_lt (rx HO138))) (Kd.R_lt (rx HO142))) (Kd.R_lt (rx HO146))) (Kd.R_lt (rx HO157))) (below_size (bw HB))); replace HO138 := Aside0.mk (Kd.R_elder' (rx HO138) (Kd.R_base ho45) hb); replace HO142 := Aside0.mk (Kd.R_elder' (rx HO142) (Kd.R_base ho45) hb); replace HO146 := Aside0.mk (Kd.R_elder' (rx HO146) (Kd.R_base ho45) hb); replace HO157 := Aside0.mk (Kd.R_elder' (rx HO157) (Kd.R_base ho45) hb); replace HR150 := Aside0.mk (Kd.C_below (by repeat (first | (with_reducible exact HR150.out) | (with_reducible refine Kd.C_alloc ?_ _) | (with_reducible refine Kd.C_drewN ?_ _) | (with_reducible refine Kd.C_drew ?_) | exact HR150.out)) hb); replace HB := bh HB hb; clear hb ho45; obtain ⟨Ao46, co46, eo46⟩ := Kd.R_slice HO138.out; subst eo46; obtain ⟨Ao47, co47, eo47⟩ := Kd.R_slice HO172.out; subst eo47) | ((with_reducible refine gate_callee (f := 9) rfl ?_); refine goesB (some 61) rfl rfl Try.func9 #[.slice Ao46 t135.length co46, .slice Ao47 y170.length co47] rfl ?_; (with_reducible refine (stickfulref12_Same.calls k _ _ t135 _ _ y170 true _ ?side1 ?side2 ?side3 ?side4 A9.out).mono ?_); (case side1 => repeat (first | exact (Kd.R_reads' HO138.out).2.2 | (with_reducible refine Kd.C_alloc ?_ _) | (with_reducible refine Kd.C_drewN ?_ _) | (with_reducible refine Kd.C_drew ?_))); (case side2 => exact (Kd.R_reads' HO138.out).2.1); (case side3 => repeat (first | exact (Kd.R_reads' HO172.out).2.2 | (with_reducible refine Kd.C_alloc ?_ _) | (with_reducible refine Kd.C_drewN ?_ _) | (with_reducible refine Kd.C_drew ?_))); (case side4 => exact (Kd.R_reads' HO172.out).2.1); rintro e w' ⟨rfl, ⟨nd, rfl⟩⟩; refine ⟨_, rfl, ?_⟩) | ((with_reducible refine gate_dst (N := 68) rfl ?_); (try (refine gate_guard (by rfl) ?_; dsimp only)); refine Kd.R_lit (Kd.int .i64) _ 2 ?hg (N := 68) ?hd (xs := ([3, 8, 16, 21] : List Int)) (inner := [.int .i64 3, .int .i64 8, .int .i64 16, .int .i64 21]) (ok := fun _ => True) (okp := fun _ => True) ?hr ?hp (fun _ hk => hk) trivial (Below.refl _ _) (Nat.le_refl _) (by simp) ?_; (case hd => rfl); (case hg => rfl); (case hr => first | (go_simp; done) | (go_simp; rfl)); (case hp => exact (Reps.one (show Kd.M (Kd.int .i64) _ _ _ 3 [.int .i64 3] from rfl) (Reps.one (show Kd.M (Kd.int .i64) _ _ _ 8 [.int .i64 8] from rfl) (Reps.one (show Kd.M (Kd.int .i64) _ _ _ 16 [.int .i64 16] from rfl) (Reps.one (show Kd.M (Kd.int .i64) _ _ _ 21 [.int .i64 21] from rfl) (Reps.none _ _)))))); intro v175 w48 ho49 hb hg_ hnew_; clear hg_ hnew_; (first | rw [← Ny174.out] at ho49 | (simp only [Int.reduceToNat] at ho49; rw [← Ny174.out] at ho49)); replace HO134 := Aside0.mk (Kd.R_below (rx HO134) hb); replace HO153 := Aside0.mk (Kd.R_below (rx HO153) hb); replace HO160 := Aside0.mk (Kd.R_below (rx HO160) hb); replace HO167 := Aside0.mk (Kd.R_below (rx HO167) hb); have HO176 := Aside0.mk (Kd.R_lower (Kd.R_new' (Kd.R_new' (Kd.R_new' (Kd.R_new' (Kd.R_new' ho49 (Kd.R_lt (rx HO138))) (Kd.R_lt (rx HO142))) (Kd.R_lt (rx HO146))) (Kd.R_lt (rx HO157))) (Kd.R_lt (rx HO172))) (below_size (bw HB))); replace HO138 := Aside0.mk (Kd.R_elder' (rx HO138) (Kd.R_base ho49) hb); replace HO142 := Aside0.mk (Kd.R_elder' (rx HO142) (Kd.R_base ho49) hb); replace HO146 := Aside0.mk (Kd.R_elder' (rx HO146) (Kd.R_base ho49) hb); replace HO157 := Aside0.mk (Kd.R_elder' (rx HO157) (Kd.R_base ho49) hb); replace HO172 := Aside0.mk (Kd.R_elder' (rx HO172) (Kd.R_base ho49) hb); replace HR150 := Aside0.mk (Kd.C_below (by repeat (first | (with_reducible exact HR150.out) | (with_reducible refine Kd.C_alloc ?_ _) | (with_reducible refine Kd.C_drewN ?_ _) | (with_reducible refine Kd.C_drew ?_) | exact HR150.out)) hb); replace HB := bh HB hb; clear hb ho49; obtain ⟨Ao50, co50, eo50⟩ := Kd.R_slice HO142.out; subst eo50; obtain ⟨Ao51, co51, eo51⟩ := Kd.R_slice HO176.out; subst eo51) | (go_at_call 9; (with_reducible refine (stickfulref12_Same.calls k _ _ t139 _ _ y174 true _ ?side1 ?side2 ?side3 ?side4 A12.out).mono ?_); (case side1 => repeat (first | exact (Kd.R_reads' HO142.out).2.2 | (with_reducible refine Kd.C_alloc ?_ _) | (with_reducible refine Kd.C_drewN ?_ _) | (with_reducible refine Kd.C_drew ?_))); (case side2 => exact (Kd.R_reads' HO142.out).2.1); (case side3 => repeat (first | exact (Kd.R_reads' HO176.out).2.2 | (with_reducible refine Kd.C_alloc ?_ _) | (with_reducible refine Kd.C_drewN ?_ _) | (with_reducible refine Kd.C_drew ?_))); (case side4 => exact (Kd.R_reads' HO176.out).2.1); rintro e w' ⟨rfl, ⟨nd, rfl⟩⟩) | ((with_reducible refine gate_dst (N := 77) rfl ?_); (try (refine gate_guard (by rfl) ?_; dsimp only)); refine Kd.R_lit (Kd.int .i64) _ 2 ?hg (N := 77) ?hd (xs := ([4, 9, 16, 21] : List Int)) (inner := [.int .i64 4, .int .i64 9, .int .i64 16, .int .i64 21]) (ok := fun _ => True) (okp := fun _ => True) ?hr ?hp (fun _ hk => hk) trivial (Below.refl _ _) (Nat.le_refl _) (by simp) ?_; (case hd => rfl); (case hg => rfl); (case hr => first | (go_simp; done) | (go_simp; rfl)); (case hp => exact (Reps.one (show Kd.M (Kd.int .i64) _ _ _ 4 [.int .i64 4] from rfl) (Reps.one (show Kd.M (Kd.int .i64) _ _ _ 9 [.int .i64 9] from rfl) (Reps.one (show Kd.M (Kd.int .i64) _ _ _ 16 [.int .i64 16] from rfl) (Reps.one (show Kd.M (Kd.int .i64) _ _ _ 21 [.int .i64 21] from rfl) (Reps.none _ _)))))); intro v179 w52 ho53 hb hg_ hnew_; clear hg_ hnew_; (first | rw [← Ny178.out] at ho53 | (simp only [Int.reduceToNat] at ho53; rw [← Ny178.out] at ho53)); replace HO134 := Aside0.mk (Kd.R_below (rx HO134) hb); replace HO153 := Aside0.mk (Kd.R_below (rx HO153) hb); replace HO160 := Aside0.mk (Kd.R_below (rx HO160) hb); replace HO167 := Aside0.mk (Kd.R_below (rx HO167) hb); have HO180 := Aside0.mk (Kd.R_lower (Kd.R_new' (Kd.R_new' (Kd.R_new' (Kd.R_new' (Kd.R_new' (Kd.R_new' ho53 (Kd.R_lt (rx HO138))) (Kd.R_lt (rx HO142))) (Kd.R_lt (rx HO146))) (Kd.R_lt (rx HO157))) (Kd.R_lt (rx HO172))) (Kd.R_lt (rx HO176))) (below_size (bw HB))); replace HO138 := Aside0.mk (Kd.R_elder' (rx HO138) (Kd.R_base ho53) hb); replace HO142 := Aside0.mk (Kd.R_elder' (rx HO142) (Kd.R_base ho53) hb); replace HO146 := Aside0.mk (Kd.R_elder' (rx HO146) (Kd.R_base ho53) hb); replace HO157 := Aside0.mk (Kd.R_elder' (rx HO157) (Kd.R_base ho53) hb); replace HO172 := Aside0.mk (Kd.R_elder' (rx HO172) (Kd.R_base ho53) hb); replace HO176 := Aside0.mk (Kd.R_elder' (rx HO176) (Kd.R_base ho53) hb); replace HR150 := Aside0.mk (Kd.C_below (by repeat (first | (with_reducible exact HR150.out) | (with_reducible refine Kd.C_alloc ?_ _) | (with_reducible refine Kd.C_drewN ?_ _) | (with_reducible refine Kd.C_drew ?_) | exact HR150.out)) hb); replace HB := bh HB hb; clear hb ho53; obtain ⟨Ao54, co54, eo54⟩ := Kd.R_slice HO146.out; subst eo54; obtain ⟨Ao55, co55, eo55⟩ := Kd.R_slice HO180.out; subst eo55) | (go_at_call 9; (with_reducible refine (stickfulref12_Same.calls k _ _ t143 _ _ y178 true _ ?side1 ?side2 ?side3 ?side4 A15.out).mono ?_); (case side1 => repeat (first | exact (Kd.R_reads' HO146.out).2.2 | (with_reducible refine Kd.C_alloc ?_ _) | (with_reducible refine Kd.C_drewN ?_ _) | (with_reducible refine Kd.C_drew ?_))); (case side2 => exact (Kd.R_reads' HO146.out).2.1); (case side3 => repeat (first | exact (Kd.R_reads' HO180.out).2.2 | (with_reducible refine Kd.C_alloc ?_ _) | (with_reducible refine Kd.C_drewN ?_ _) | (with_reducible refine Kd.C_drew ?_))); (case side4 => exact (Kd.R_reads' HO180.out).2.1); rintro e w' ⟨rfl, ⟨nd, rfl⟩⟩) | ((with_reducible refine gate_dst (N := 86) rfl ?_); (try (refine gate_guard (by rfl) ?_; dsimp only)); refine Kd.R_lit (Kd.int .i64) _ 2 ?hg (N := 86) ?hd (xs := ([0, 5, 5] : List Int)) (inner := [.int .i64 0, .int .i64 5, .int .i64 5]) (ok := fun _ => True) (okp := fun _ => True) ?hr ?hp (fun _ hk => hk) trivial (Below.refl _ _) (Nat.le_refl _) (by simp) ?_; (case hd => rfl); (case hg => rfl); (case hr => first | (go_simp; done) | (go_simp; rfl)); (case hp => exact (Reps.one (show Kd.M (Kd.int .i64) _ _ _ 0 [.int .i64 0] from rfl) (Reps.one (show Kd.M (Kd.int .i64) _ _ _ 5 [.int .i64 5] from rfl) (Reps.one (show Kd.M (Kd.int .i64) _ _ _ 5 [.int .i64 5] from rfl) (Reps.none _ _))))); intro v183 w56 ho57 hb hg_ hnew_; clear hg_ hnew_; (first | rw [← Ny182.out] at ho57 | (simp only [Int.reduceToNat] at ho57; rw [← Ny182.out] at ho57)); replace HO134 := Aside0.mk (Kd.R_below (rx HO134) hb); replace HO153 := Aside0.mk (Kd.R_below (rx HO153) hb); replace HO160 := Aside0.mk (Kd.R_below (rx HO160) hb); replace HO167 := Aside0.mk (Kd.R_below (rx HO167) hb); have HO184 := Aside0.mk (Kd.R_lower (Kd.R_new' (Kd.R_new' (Kd.R_new' (Kd.R_new' (Kd.R_new' (Kd.R_new' (Kd.R_new' ho57 (Kd.R_lt (rx HO138))) (Kd.R_lt (rx HO142))) (Kd.R_lt (rx HO146))) (Kd.R_lt (rx HO157))) (Kd.R_lt (rx HO172))) (Kd.R_lt (rx HO176))) (Kd.R_lt (rx HO180))) (below_size (bw HB))); replace HO138 := Aside0.mk (Kd.R_elder' (rx HO138) (Kd.R_base ho57) hb); replace HO142 := Aside0.mk (Kd.R_elder' (rx HO142) (Kd.R_base ho57) hb); replace HO146 := Aside0.mk (Kd.R_elder' (rx HO146) (Kd.R_base ho57) hb); replace HO157 := Aside0.mk (Kd.R_elder' (rx HO157) (Kd.R_base ho57) hb); replace HO172 := Aside0.mk (Kd.R_elder' (rx HO172) (Kd.R_base ho57) hb); replace HO176 := Aside0.mk (Kd.R_elder' (rx HO176) (Kd.R_base ho57) hb); replace HO180 := Aside0.mk (Kd.R_elder' (rx HO180) (Kd.R_base ho57) hb); replace HR150 := Aside0.mk (Kd.C_below (by repeat (first | (with_reducible exact HR150.out) | (with_reducible refine Kd.C_alloc ?_ _) | (with_reducible refine Kd.C_drewN ?_ _) | (with_reducible refine Kd.C_drew ?_) | exact HR150.out)) hb); replace HB := bh HB hb; clear hb ho57; obtain ⟨Ao58, co58, eo58⟩ := Kd.R_slice HO157.out; subst eo58; obtain ⟨Ao59, co59, eo59⟩ := Kd.R_slice HO184.out; subst eo59) | (go_at_call 9; (with_reducible refine (stickfulref12_Same.calls k _ _ t154 _ _ y182 true _ ?side1 ?side2 ?side3 ?side4 A18.out).mono ?_); (case side1 => repeat (first | exact (Kd.R_reads' HO157.out).2.2 | (with_reducible refine Kd.C_alloc ?_ _) | (with_reducible refine Kd.C_drewN ?_ _) | (with_reducible refine Kd.C_drew ?_))); (case side2 => exact (Kd.R_reads' HO157.out).2.1); (case side3 => repeat (first | exact (Kd.R_reads' HO184.out).2.2 | (with_reducible refine Kd.C_alloc ?_ _) | (with_reducible refine Kd.C_drewN ?_ _) | (with_reducible refine Kd.C_drew ?_))); (case side4 => exact (Kd.R_reads' HO184.out).2.1); rintro e w' ⟨rfl, ⟨nd, rfl⟩⟩))
                          go_ret
                          exact ⟨by first | rfl | (simp [errW_none, errW_some] <;> rfl) | (simp [*, errW_none, errW_some] <;> rfl), by repeat (first | (with_reducible first | exact HB.out | apply below_alloc | apply pw_below_drewN | apply below_drew1) | exact HB.out)⟩
                        · rw [if_neg c23] at H
                          have c23b0 : (t164 == 2) = false := beq_eq_false_iff_ne.mpr c23
                          have c23b1 : (t164 != 2) = true := bne_iff_ne.mpr c23
                          exact absurd ((Option.some.inj H).trans HR_.out) (by decide)
                      · rw [if_neg c22] at H
                        have c22b0 : (t162 == 0) = false := beq_eq_false_iff_ne.mpr c22
                        have c22b1 : (t162 != 0) = true := bne_iff_ne.mpr c22
                        exact absurd ((Option.some.inj H).trans HR_.out) (by decide)
                    · rw [if_neg c21] at H
                      have c21b0 : (t161 == 0) = false := beq_eq_false_iff_ne.mpr c21
                      have c21b1 : (t161 != 0) = true := bne_iff_ne.mpr c21
                      exact absurd ((Option.some.inj H).trans HR_.out) (by decide)
                  · rw [if_neg c20] at H
                    have c20b0 : (t155 == 0) = false := beq_eq_false_iff_ne.mpr c20
                    have c20b1 : (t155 != 0) = true := bne_iff_ne.mpr c20
                    exact absurd ((Option.some.inj H).trans HR_.out) (by decide)
                · replace c19 := Bool.eq_false_iff.mpr c19
                  subst c19
                  have H1 : (some false) = some r := by rw [if_neg (show ¬ (false = true) by decide)] at H; exact H
                  clear H
                  have H := H1
                  clear H1
                  exact absurd ((Option.some.inj H).trans HR_.out) (by decide)
              · rw [if_neg c17] at H
                have c17b0 : (t144 == 0) = false := beq_eq_false_iff_ne.mpr c17
                have c17b1 : (t144 != 0) = true := bne_iff_ne.mpr c17
                exact absurd ((Option.some.inj H).trans HR_.out) (by decide)
            · replace c16 := Bool.eq_false_iff.mpr c16
              subst c16
              have H1 : (some false) = some r := by rw [if_neg (show ¬ (false = true) by decide)] at H; exact H
              clear H
              have H := H1
              clear H1
              exact absurd ((Option.some.inj H).trans HR_.out) (by decide)
          · rw [if_neg c14] at H
            have c14b0 : (t140 == 0) = false := beq_eq_false_iff_ne.mpr c14
            have c14b1 : (t140 != 0) = true := bne_iff_ne.mpr c14
            exact absurd ((Option.some.inj H).trans HR_.out) (by decide)
        · replace c13 := Bool.eq_false_iff.mpr c13
          subst c13
          have H1 : (some false) = some r := by rw [if_neg (show ¬ (false = true) by decide)] at H; exact H
          clear H
          have H := H1
          clear H1
          exact absurd ((Option.some.inj H).trans HR_.out) (by decide)
      · rw [if_neg c11] at H
        have c11b0 : (t136 == 0) = false := beq_eq_false_iff_ne.mpr c11
        have c11b1 : (t136 != 0) = true := bne_iff_ne.mpr c11
        exact absurd ((Option.some.inj H).trans HR_.out) (by decide)
    · replace c10 := Bool.eq_false_iff.mpr c10
      subst c10
      have H1 : (some false) = some r := by rw [if_neg (show ¬ (false = true) by decide)] at H; exact H
      clear H
      have H := H1
      clear H1
      exact absurd ((Option.some.inj H).trans HR_.out) (by decide)
  · rw [if_neg c4] at H
    exact absurd H (by simp)

theorem stickfullaw12_head.true_ (k : Nat) (r : Bool) (h : stickfullaw12_head.f k = some r) : r = true := by
 have h1 : stickfullaw12_head.f 100 = some true := by kernel_rfl
 have a := at_rounds stickfullaw12_head.mono (Nat.le_max_left k 100) h
 have b := at_rounds stickfullaw12_head.mono (Nat.le_max_right k 100) h1
 rw [a] at b
 exact Option.some.inj b
theorem stickfullaw12_head.calls (k : Nat)  (r : Bool) (w : World) (h : stickfullaw12_head.f k  = some r) :
    Calls Try.prog 7 #[] w fun e w' => e = .returned (.bool r) ∧ Below w.heap.size w w' := stickfullaw12_head.calls_t k r w h (stickfullaw12_head.true_ k r h)

end Go.Proofs.Ytdkhjhckdjhiiaa.HTabs
