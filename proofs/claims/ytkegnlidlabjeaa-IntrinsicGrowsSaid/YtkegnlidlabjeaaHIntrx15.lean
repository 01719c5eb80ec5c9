-- Written by this claim's own program over the kit's print.
import Derived.Test.YtkegnlidlabjeaaHIntrb
import Derived.Test.YtkegnlidlabjeaaHIntrx0
import Derived.Test.YtkegnlidlabjeaaHIntrx1
import Derived.Test.YtkegnlidlabjeaaHIntrx12
import Derived.Test.YtkegnlidlabjeaaHIntrx14
namespace Go.Proofs.Ytkegnlidlabjeaa.HIntr
open Go.RowKit Go.Proofs.YtkegnlidlabjeaaW.PrintWords Go.Proofs.YtkegnlidlabjeaaW.PrintLast Go.Proofs.YtkegnlidlabjeaaW.PrintMore Go.Proofs.Ytkegnlidlabjeaa.Hand
attribute [local go_sem] max2_int min2_int max_two min_two max_three min_three max_four min_four   -- for this text's walks alone
set_option linter.unusedVariables false
set_option linter.unusedSimpArgs false

attribute [local go_sem high] eqA50
/-! ### stickfulref21_Same: function 28 -/
def stickfulref21_Same.l0 : Nat → List (S50) → List (S50) → Int → Option (Bool)
  | 0, _, _, _ => none
  | k + 1, x0, x1, x5 => if x5 < (x0.length : Int) then (if 0 ≤ x5 then (if x5 < (x1.length : Int) then (if (!(((rd_T50 x0 x5).f0) == ((rd_T50 x1 x5).f0)) || (!(((rd_T50 x0 x5).f1) == ((rd_T50 x1 x5).f1)))) = true then (some false) else (stickfulref21_Same.l0 k x0 x1 (wrap64 (x5 + 1)))) else (none)) else (none)) else (some true)
def stickfulref21_Same.f (k : Nat) (l0 : List (S50)) (l1 : List (S50)) : Option (Bool) := if (l0.length : Int) = (l1.length : Int) then (stickfulref21_Same.l0 k l0 l1 0) else (some false)
theorem stickfulref21_Same.mono_l : ∀ k, (∀ y0 y1 y2, LeO (stickfulref21_Same.l0 k y0 y1 y2) (stickfulref21_Same.l0 (k + 1) y0 y1 y2))
  | 0 => fun _ _ _ r h => by simp [stickfulref21_Same.l0] at h
  | k + 1 => by
    have ih0 := stickfulref21_Same.mono_l k
    · intro y0 y1 y2
      unfold stickfulref21_Same.l0
      repeat' first
      | (with_reducible exact ih0 _ _ _)
      | (with_reducible exact LeO.refl _)
      | (with_reducible exact LeO.none _)
      | (with_reducible refine LeO.ite ?_ ?_)
      | (with_reducible refine LeO.bind ?_ (fun _ => ?_))
      | exact ih0 _ _ _
      | exact LeO.none _
      | refine LeO.ite ?_ ?_
      | refine LeO.bind ?_ (fun _ => ?_)
theorem stickfulref21_Same.mono : ∀ a0 a1 k, LeO (stickfulref21_Same.f k a0 a1) (stickfulref21_Same.f (k + 1) a0 a1) := by
  intro a0 a1 k
  have ih0 := stickfulref21_Same.mono_l k
  unfold stickfulref21_Same.f
  repeat' first
      | (with_reducible exact ih0 _ _ _)
      | (with_reducible exact LeO.refl _)
      | (with_reducible exact LeO.none _)
      | (with_reducible refine LeO.ite ?_ ?_)
      | (with_reducible refine LeO.bind ?_ (fun _ => ?_))
      | exact ih0 _ _ _
      | exact LeO.none _
      | refine LeO.ite ?_ ?_
      | refine LeO.bind ?_ (fun _ => ?_)
set_option maxHeartbeats 8000000 in
set_option maxRecDepth 100000 in
theorem stickfulref21_Same.calls (k : Nat) (A0 : Option Addr) (c0 : Nat) (l0 : List (S50)) (A1 : Option Addr) (c1 : Nat) (l1 : List (S50)) (r : Bool) (w : World) (hr0 : Kd.C k50 w A0 l0.length l0) (hc0 : l0.length ≤ c0) (hr1 : Kd.C k50 w A1 l1.length l1) (hc1 : l1.length ≤ c1) (h : stickfulref21_Same.f k l0 l1 = some r) :
    Calls Try.prog 28 #[.slice A0 l0.length c0, .slice A1 l1.length c1] w fun e w' => e = .returned (.bool r) ∧ Drawn0 w w' := by
  have hu50 := Try.underlying50
  have HR0 := Aside0.mk hr0
  have HC0 := Aside0.mk hc0
  clear hr0 hc0
  have HR1 := Aside0.mk hr1
  have HC1 := Aside0.mk hc1
  clear hr1 hc1
  have H : (if (l0.length : Int) = (l1.length : Int) then (stickfulref21_Same.l0 k l0 l1 0) else (some false)) = some r := h
  clear h
  by_cases c3 : (l0.length : Int) = (l1.length : Int)
  · rw [if_pos c3] at H
    have c3b0 : ((l0.length : Int) == (l1.length : Int)) = true := beq_iff_eq.mpr c3
    have c3b1 : ((l0.length : Int) != (l1.length : Int)) = false := bne_eq_false_iff_eq.mpr c3
    have c3b2 : (l0.length == l1.length) = true := by first | simpa using c3 | (simp at c3 ⊢; omega)
    clear c3
    have H' := Aside0.mk H
    clear H
    go_enter Try.func28, Try.ntmps28
    go_wp2
    repeat (go_quiet (fail); try go_wp2)
    go_loopg [5] k (fun kq v5 w' => ∃ (x5_1 : Int), v5 = .int .i64 x5_1 ∧ Aside0 (stickfulref21_Same.l0 kq l0 l1 x5_1 = some r) ∧ Aside0 (kq ≤ k) ∧ Drawn0 w w')
    case atStart => exact ⟨(0), (by first | rfl | (simp; done) | (simp [*]; done)), H', ⟨Nat.le_refl _⟩, by repeat (first | exact Drawn0.refl _ | apply Drawn0.step)⟩
    case round =>
      clear H'
      try clear c1
      try clear c2
      try clear p2
      try clear c3
      try clear c3b0
      try clear c3b1
      try clear c3b2
      obtain ⟨x5_1, rfl, HA, HK1, ⟨m1, rfl⟩⟩ := hrel
      cases gk with
      | zero => exact absurd HA.out (by simp [stickfulref21_Same.l0])
      | succ k1 =>
        have H := HA.out
        clear HA
        simp only [stickfulref21_Same.l0] at H
        by_cases c4 : x5_1 < (l0.length : Int)
        · rw [if_pos c4] at H
          have c4b0 : decide (x5_1 < (l0.length : Int)) = true := decide_eq_true c4
          clear c4
          by_cases c5 : 0 ≤ x5_1
          · rw [if_pos c5] at H
            have c5b0 : decide (0 ≤ x5_1) = true := decide_eq_true c5
            clear c5
            by_cases c6 : x5_1 < (l1.length : Int)
            · rw [if_pos c6] at H
              have c6b0 : decide (x5_1 < (l1.length : Int)) = true := decide_eq_true c6
              clear c6
              by_cases c7 : (!(((rd_T50 l0 x5_1).f0) == ((rd_T50 l1 x5_1).f0)) || (!(((rd_T50 l0 x5_1).f1) == ((rd_T50 l1 x5_1).f1)))) = true
              · rw [if_pos c7] at H
                have c7b0 : (!(((rd_T50 l0 x5_1).f0) == ((rd_T50 l1 x5_1).f0)) || (!(((rd_T50 l0 x5_1).f1) == ((rd_T50 l1 x5_1).f1)))) = true := c7
                clear c7
                obtain rfl := Option.some.inj H
                have p133 : 0 ≤ (x5_1 : Int) := of_decide_eq_true (by first | (with_reducible assumption) | assumption)
                have q133 : x5_1 < (l0.length : Int) := of_decide_eq_true (by first | (with_reducible assumption) | assumption)
                obtain ⟨ad133, e133, hx133_0, hx133_1⟩ := at_T50 HR0.out x5_1 p133 q133
                cases e133
                replace p133 := eq_true p133
                replace q133 := eq_true q133
                have p134 : 0 ≤ (x5_1 : Int) := of_decide_eq_true (by first | (with_reducible assumption) | assumption)
                have q134 : x5_1 < (l1.length : Int) := of_decide_eq_true (by first | (with_reducible assumption) | assumption)
                obtain ⟨ad134, e134, hx134_0, hx134_1⟩ := at_T50 HR1.out x5_1 p134 q134
                cases e134
                replace p134 := eq_true p134
                replace q134 := eq_true q134
                go_wp2
                repeat (go_quiet (fail); try go_wp2)
                go_ret
                exact ⟨by first | rfl | (simp; done) | (simp [*]; done), by repeat (first | exact Drawn0.refl _ | apply Drawn0.step)⟩
              · rw [if_neg c7] at H
                have c7b0 : (!(((rd_T50 l0 x5_1).f0) == ((rd_T50 l1 x5_1).f0)) || (!(((rd_T50 l0 x5_1).f1) == ((rd_T50 l1 x5_1).f1)))) = false := by simpa using c7
                clear c7
                have H' := Aside0.mk H
                clear H
                have p133 : 0 ≤ (x5_1 : Int) := of_decide_eq_true (by first | (with_reducible assumption) | assumption)
                have q133 : x5_1 < (l0.length : Int) := of_decide_eq_true (by first | (with_reducible assumption) | assumption)
                obtain ⟨ad133, e133, hx133_0, hx133_1⟩ := at_T50 HR0.out x5_1 p133 q133
                cases e133
                replace p133 := eq_true p133
                replace q133 := eq_true q133
                have p134 : 0 ≤ (x5_1 : Int) := of_decide_eq_true (by first | (with_reducible assumption) | assumption)
                have q134 : x5_1 < (l1.length : Int) := of_decide_eq_true (by first | (with_reducible assumption) | assumption)
                obtain ⟨ad134, e134, hx134_0, hx134_1⟩ := at_T50 HR1.out x5_1 p134 q134
                cases e134
                replace p134 := eq_true p134
                replace q134 := eq_true q134
                go_wp2
                repeat (go_quiet (fail); try go_wp2)
                go_roundg k1
                case measure => have := HK1.out; omega
                case rel => exact ⟨(wrap64 (x5_1 + 1)), (by first | rfl | (simp; done) | (simp [*]; done)), H', ⟨by have := HK1.out; omega⟩, by repeat (first | exact Drawn0.refl _ | apply Drawn0.step)⟩
            · rw [if_neg c6] at H
              exact absurd H (by simp)
          · rw [if_neg c5] at H
            exact absurd H (by simp)
        · rw [if_neg c4] at H
          have c4b0 : decide (x5_1 < (l0.length : Int)) = false := decide_eq_false c4
          clear c4
          obtain rfl := Option.some.inj H
          go_wp2
          repeat (go_quiet (fail); try go_wp2)
          go_ret
          exact ⟨by first | rfl | (simp; done) | (simp [*]; done), by repeat (first | exact Drawn0.refl _ | apply Drawn0.step)⟩
  · rw [if_neg c3] at H
    have c3b0 : ((l0.length : Int) == (l1.length : Int)) = false := beq_eq_false_iff_ne.mpr c3
    have c3b1 : ((l0.length : Int) != (l1.length : Int)) = true := bne_iff_ne.mpr c3
    have c3b2 : (l0.length == l1.length) = false := by first | simpa using c3 | (simp at c3 ⊢; omega)
    obtain rfl := Option.some.inj H
    go_enter Try.func28, Try.ntmps28
    go_wp2
    repeat (go_quiet (fail); try go_wp2)
    go_ret
    exact ⟨by first | rfl | (simp; done) | (simp [*]; done), by repeat (first | exact Drawn0.refl _ | apply Drawn0.step)⟩

/-! ### stickfullaw21_head: function 24 -/
def stickfullaw21_head.f (k : Nat)  : Option (Bool) := (some (([(⟨0, 0, 0, 5, false, false⟩ : S35), (⟨0, 0, 0, 5, false, false⟩ : S35), (⟨1, 0, 0, 5, false, false⟩ : S35), (⟨0, 0, 0, 5, true, false⟩ : S35)] : List (S35)) : List (S35))).bind fun y139 => ((some (([(⟨0, 0, 0, 5, false, false⟩ : S35), (⟨1, 0, 0, 5, false, false⟩ : S35), (⟨5, 0, 0, 0, false, false⟩ : S35), (⟨0, 0, 0, 5, true, false⟩ : S35), (⟨0, 0, 0, 5, false, false⟩ : S35)] : List (S35)) : List (S35))).bind fun y142 => ((intrinsic_MinMax.f y139).bind fun bt145 => ((intrinsic_MinMax.f y142).bind fun bt148 => ((intrinsic_MinMax.f (([(⟨1, 0, 0, 5, false, false⟩ : S35), (⟨1, 0, 0, 5, false, false⟩ : S35)] : List (S35)))).bind fun bt154 => ((intrinsic_MinMax.f (([(⟨4, 0, 0, (-1), false, false⟩ : S35)] : List (S35)))).bind fun bt160 => ((intrinsic_Pieces.f y139).bind fun t163 => ((stickfulref21_Same.f k t163 (([(⟨0, 3⟩ : S50), (⟨3, 4⟩ : S50)] : List (S50)))).bind fun t169 => (if t169 = true then ((intrinsic_Pieces.f y142).bind fun t170 => ((stickfulref21_Same.f k t170 (([(⟨0, 3⟩ : S50), (⟨3, 5⟩ : S50)] : List (S50)))).bind fun t176 => (if t176 = true then (if bt145.1 = 10 then (if bt145.2.1 = 20 then (if bt145.2.2 = 0 then (if bt148.1 = 10 then (if bt148.2.1 = 10 then (if bt148.2.2 = 0 then (if bt154.1 = 0 then (if bt154.2.1 = 0 then (if bt154.2.2 = 0 then (some (bt160.2.2 == 2)) else (some false)) else (some false)) else (some false)) else (some false)) else (some false)) else (some false)) else (some false)) else (some false)) else (some false)) else (some false)))) else (some false)))))))))
theorem stickfullaw21_head.mono : ∀ k, LeO (stickfullaw21_head.f k ) (stickfullaw21_head.f (k + 1) ) := by
  intro  k
  unfold stickfullaw21_head.f
  repeat' first
      | (with_reducible exact stickfulref21_Same.mono _ _ _)
      | (with_reducible exact LeO.refl _)
      | (with_reducible exact LeO.none _)
      | (with_reducible refine LeO.ite ?_ ?_)
      | (with_reducible refine LeO.bind ?_ (fun _ => ?_))
      | exact stickfulref21_Same.mono _ _ _
      | exact LeO.none _
      | refine LeO.ite ?_ ?_
      | refine LeO.bind ?_ (fun _ => ?_)
set_option maxHeartbeats 8000000 in
set_option maxRecDepth 100000 in
theorem stickfullaw21_head.calls_t (k : Nat)  (r : Bool) (w : World) (h : stickfullaw21_head.f k  = some r) (hr_ : r = true) :
    Calls Try.prog 24 #[] w fun e w' => e = .returned (.bool r) ∧ Below w.heap.size w w' := by
  have hu35 := Try.underlying35
  have hu50 := Try.underlying50
  have HR_ := Aside0.mk hr_
  clear hr_
  have HB := Aside0.mk (Below.refl w.heap.size w)
  have H : ((some (([(⟨0, 0, 0, 5, false, false⟩ : S35), (⟨0, 0, 0, 5, false, false⟩ : S35), (⟨1, 0, 0, 5, false, false⟩ : S35), (⟨0, 0, 0, 5, true, false⟩ : S35)] : List (S35)) : List (S35))).bind fun y139 => ((some (([(⟨0, 0, 0, 5, false, false⟩ : S35), (⟨1, 0, 0, 5, false, false⟩ : S35), (⟨5, 0, 0, 0, false, false⟩ : S35), (⟨0, 0, 0, 5, true, false⟩ : S35), (⟨0, 0, 0, 5, false, false⟩ : S35)] : List (S35)) : List (S35))).bind fun y142 => ((intrinsic_MinMax.f y139).bind fun bt145 => ((intrinsic_MinMax.f y142).bind fun bt148 => ((intrinsic_MinMax.f (([(⟨1, 0, 0, 5, false, false⟩ : S35), (⟨1, 0, 0, 5, false, false⟩ : S35)] : List (S35)))).bind fun bt154 => ((intrinsic_MinMax.f (([(⟨4, 0, 0, (-1), false, false⟩ : S35)] : List (S35)))).bind fun bt160 => ((intrinsic_Pieces.f y139).bind fun t163 => ((stickfulref21_Same.f k t163 (([(⟨0, 3⟩ : S50), (⟨3, 4⟩ : S50)] : List (S50)))).bind fun t169 => (if t169 = true then ((intrinsic_Pieces.f y142).bind fun t170 => ((stickfulref21_Same.f k t170 (([(⟨0, 3⟩ : S50), (⟨3, 5⟩ : S50)] : List (S50)))).bind fun t176 => (if t176 = true then (if bt145.1 = 10 then (if bt145.2.1 = 20 then (if bt145.2.2 = 0 then (if bt148.1 = 10 then (if bt148.2.1 = 10 then (if bt148.2.2 = 0 then (if bt154.1 = 0 then (if bt154.2.1 = 0 then (if bt154.2.2 = 0 then (some (bt160.2.2 == 2)) else (some false)) else (some false)) else (some false)) else (some false)) else (some false)) else (some false)) else (some false)) else (some false)) else (some false)) else (some false)))) else (some false)))))))))) = some r := h
  clear h
  obtain ⟨y139, hy139⟩ : ∃ y_ : List (S35), y_ = (([(⟨0, 0, 0, 5, false, false⟩ : S35), (⟨0, 0, 0, 5, false, false⟩ : S35), (⟨1, 0, 0, 5, false, false⟩ : S35), (⟨0, 0, 0, 5, true, false⟩ : S35)] : List (S35))) := ⟨_, rfl⟩
  replace H : ((some (([(⟨0, 0, 0, 5, false, false⟩ : S35), (⟨1, 0, 0, 5, false, false⟩ : S35), (⟨5, 0, 0, 0, false, false⟩ : S35), (⟨0, 0, 0, 5, true, false⟩ : S35), (⟨0, 0, 0, 5, false, false⟩ : S35)] : List (S35)) : List (S35))).bind fun y142 => ((intrinsic_MinMax.f y139).bind fun bt145 => ((intrinsic_MinMax.f y142).bind fun bt148 => ((intrinsic_MinMax.f (([(⟨1, 0, 0, 5, false, false⟩ : S35), (⟨1, 0, 0, 5, false, false⟩ : S35)] : List (S35)))).bind fun bt154 => ((intrinsic_MinMax.f (([(⟨4, 0, 0, (-1), false, false⟩ : S35)] : List (S35)))).bind fun bt160 => ((intrinsic_Pieces.f y139).bind fun t163 => ((stickfulref21_Same.f k t163 (([(⟨0, 3⟩ : S50), (⟨3, 4⟩ : S50)] : List (S50)))).bind fun t169 => (if t169 = true then ((intrinsic_Pieces.f y142).bind fun t170 => ((stickfulref21_Same.f k t170 (([(⟨0, 3⟩ : S50), (⟨3, 5⟩ : S50)] : List (S50)))).bind fun t176 => (if t176 = true then (if bt145.1 = 10 then (if bt145.2.1 = 20 then (if bt145.2.2 = 0 then (if bt148.1 = 10 then (if bt148.2.1 = 10 then (if bt148.2.2 = 0 then (if bt154.1 = 0 then (if bt154.2.1 = 0 then (if bt154.2.2 = 0 then (some (bt160.2.2 == 2)) else (some false)) else (some false)) else (some false)) else (some false)) else (some false)) else (some false)) else (some false)) else (some false)) else (some false)) else (some false)))) else (some false))))))))) = some r := by first | (rw [hy139]; with_reducible exact H) | (have H2_ := (Option.bind_some _ _).symm.trans H; rw [hy139]; with_reducible exact H2_) | (have H2_ := (Option.bind_some _ _).symm.trans H; with_reducible exact H2_) | with_reducible exact H | (rw [hy139]; exact H) | exact H
  have Ny139 := Aside0.mk hy139
  clear hy139
  obtain ⟨y142, hy142⟩ : ∃ y_ : List (S35), y_ = (([(⟨0, 0, 0, 5, false, false⟩ : S35), (⟨1, 0, 0, 5, false, false⟩ : S35), (⟨5, 0, 0, 0, false, false⟩ : S35), (⟨0, 0, 0, 5, true, false⟩ : S35), (⟨0, 0, 0, 5, false, false⟩ : S35)] : List (S35))) := ⟨_, rfl⟩
  replace H : ((intrinsic_MinMax.f y139).bind fun bt145 => ((intrinsic_MinMax.f y142).bind fun bt148 => ((intrinsic_MinMax.f (([(⟨1, 0, 0, 5, false, false⟩ : S35), (⟨1, 0, 0, 5, false, false⟩ : S35)] : List (S35)))).bind fun bt154 => ((intrinsic_MinMax.f (([(⟨4, 0, 0, (-1), false, false⟩ : S35)] : List (S35)))).bind fun bt160 => ((intrinsic_Pieces.f y139).bind fun t163 => ((stickfulref21_Same.f k t163 (([(⟨0, 3⟩ : S50), (⟨3, 4⟩ : S50)] : List (S50)))).bind fun t169 => (if t169 = true then ((intrinsic_Pieces.f y142).bind fun t170 => ((stickfulref21_Same.f k t170 (([(⟨0, 3⟩ : S50), (⟨3, 5⟩ : S50)] : List (S50)))).bind fun t176 => (if t176 = true then (if bt145.1 = 10 then (if bt145.2.1 = 20 then (if bt145.2.2 = 0 then (if bt148.1 = 10 then (if bt148.2.1 = 10 then (if bt148.2.2 = 0 then (if bt154.1 = 0 then (if bt154.2.1 = 0 then (if bt154.2.2 = 0 then (some (bt160.2.2 == 2)) else (some false)) else (some false)) else (some false)) else (some false)) else (some false)) else (some false)) else (some false)) else (some false)) else (some false)) else (some false)))) else (some false)))))))) = some r := by first | (rw [hy142]; with_reducible exact H) | (have H2_ := (Option.bind_some _ _).symm.trans H; rw [hy142]; with_reducible exact H2_) | (have H2_ := (Option.bind_some _ _).symm.trans H; with_reducible exact H2_) | with_reducible exact H | (rw [hy142]; exact H) | exact H
  have Ny142 := Aside0.mk hy142
  clear hy142
  replace H := Option.bind_eq_some_iff.mp H
  obtain ⟨⟨t145, t146, t147⟩, A10, H⟩ := H
  replace H : ((intrinsic_MinMax.f y142).bind fun bt148 => ((intrinsic_MinMax.f (([(⟨1, 0, 0, 5, false, false⟩ : S35), (⟨1, 0, 0, 5, false, false⟩ : S35)] : List (S35)))).bind fun bt154 => ((intrinsic_MinMax.f (([(⟨4, 0, 0, (-1), false, false⟩ : S35)] : List (S35)))).bind fun bt160 => ((intrinsic_Pieces.f y139).bind fun t163 => ((stickfulref21_Same.f k t163 (([(⟨0, 3⟩ : S50), (⟨3, 4⟩ : S50)] : List (S50)))).bind fun t169 => (if t169 = true then ((intrinsic_Pieces.f y142).bind fun t170 => ((stickfulref21_Same.f k t170 (([(⟨0, 3⟩ : S50), (⟨3, 5⟩ : S50)] : List (S50)))).bind fun t176 => (if t176 = true then (if t145 = 10 then (if t146 = 20 then (if t147 = 0 then (if bt148.1 = 10 then (if bt148.2.1 = 10 then (if bt148.2.2 = 0 then (if bt154.1 = 0 then (if bt154.2.1 = 0 then (if bt154.2.2 = 0 then (some (bt160.2.2 == 2)) else (some false)) else (some false)) else (some false)) else (some false)) else (some false)) else (some false)) else (some false)) else (some false)) else (some false)) else (some false)))) else (some false))))))) = some r := H
  have A1 := Aside0.mk A10
  clear A10
  replace H := Option.bind_eq_some_iff.mp H
  obtain ⟨⟨t148, t149, t150⟩, A20, H⟩ := H
  replace H : ((intrinsic_MinMax.f (([(⟨1, 0, 0, 5, false, false⟩ : S35), (⟨1, 0, 0, 5, false, false⟩ : S35)] : List (S35)))).bind fun bt154 => ((intrinsic_MinMax.f (([(⟨4, 0, 0, (-1), false, false⟩ : S35)] : List (S35)))).bind fun bt160 => ((intrinsic_Pieces.f y139).bind fun t163 => ((stickfulref21_Same.f k t163 (([(⟨0, 3⟩ : S50), (⟨3, 4⟩ : S50)] : List (S50)))).bind fun t169 => (if t169 = true then ((intrinsic_Pieces.f y142).bind fun t170 => ((stickfulref21_Same.f k t170 (([(⟨0, 3⟩ : S50), (⟨3, 5⟩ : S50)] : List (S50)))).bind fun t176 => (if t176 = true then (if t145 = 10 then (if t146 = 20 then (if t147 = 0 then (if t148 = 10 then (if t149 = 10 then (if t150 = 0 then (if bt154.1 = 0 then (if bt154.2.1 = 0 then (if bt154.2.2 = 0 then (some (bt160.2.2 == 2)) else (some false)) else (some false)) else (some false)) else (some false)) else (some false)) else (some false)) else (some false)) else (some false)) else (some false)) else (some false)))) else (some false)))))) = some r := H
  have A2 := Aside0.mk A20
  clear A20
  obtain ⟨y151, hy151⟩ : ∃ y_ : List (S35), y_ = (([(⟨1, 0, 0, 5, false, false⟩ : S35), (⟨1, 0, 0, 5, false, false⟩ : S35)] : List (S35))) := ⟨_, rfl⟩
  replace H : ((intrinsic_MinMax.f y151).bind fun bt154 => ((intrinsic_MinMax.f (([(⟨4, 0, 0, (-1), false, false⟩ : S35)] : List (S35)))).bind fun bt160 => ((intrinsic_Pieces.f y139).bind fun t163 => ((stickfulref21_Same.f k t163 (([(⟨0, 3⟩ : S50), (⟨3, 4⟩ : S50)] : List (S50)))).bind fun t169 => (if t169 = true then ((intrinsic_Pieces.f y142).bind fun t170 => ((stickfulref21_Same.f k t170 (([(⟨0, 3⟩ : S50), (⟨3, 5⟩ : S50)] : List (S50)))).bind fun t176 => (if t176 = true then (if t145 = 10 then (if t146 = 20 then (if t147 = 0 then (if t148 = 10 then (if t149 = 10 then (if t150 = 0 then (if bt154.1 = 0 then (if bt154.2.1 = 0 then (if bt154.2.2 = 0 then (some (bt160.2.2 == 2)) else (some false)) else (some false)) else (some false)) else (some false)) else (some false)) else (some false)) else (some false)) else (some false)) else (some false)) else (some false)))) else (some false)))))) = some r := by first | (rw [hy151]; with_reducible exact H) | (have H2_ := (Option.bind_some _ _).symm.trans H; rw [hy151]; with_reducible exact H2_) | (have H2_ := (Option.bind_some _ _).symm.trans H; with_reducible exact H2_) | with_reducible exact H | (rw [hy151]; exact H) | exact H
  have Ny151 := Aside0.mk hy151
  clear hy151
  replace H := Option.bind_eq_some_iff.mp H
  obtain ⟨⟨t154, t155, t156⟩, A30, H⟩ := H
  replace H : ((intrinsic_MinMax.f (([(⟨4, 0, 0, (-1), false, false⟩ : S35)] : List (S35)))).bind fun bt160 => ((intrinsic_Pieces.f y139).bind fun t163 => ((stickfulref21_Same.f k t163 (([(⟨0, 3⟩ : S50), (⟨3, 4⟩ : S50)] : List (S50)))).bind fun t169 => (if t169 = true then ((intrinsic_Pieces.f y142).bind fun t170 => ((stickfulref21_Same.f k t170 (([(⟨0, 3⟩ : S50), (⟨3, 5⟩ : S50)] : List (S50)))).bind fun t176 => (if t176 = true then (if t145 = 10 then (if t146 = 20 then (if t147 = 0 then (if t148 = 10 then (if t149 = 10 then (if t150 = 0 then (if t154 = 0 then (if t155 = 0 then (if t156 = 0 then (some (bt160.2.2 == 2)) else (some false)) else (some false)) else (some false)) else (some false)) else (some false)) else (some false)) else (some false)) else (some false)) else (some false)) else (some false)))) else (some false))))) = some r := H
  have A3 := Aside0.mk A30
  clear A30
  obtain ⟨y157, hy157⟩ : ∃ y_ : List (S35), y_ = (([(⟨4, 0, 0, (-1), false, false⟩ : S35)] : List (S35))) := ⟨_, rfl⟩
  replace H : ((intrinsic_MinMax.f y157).bind fun bt160 => ((intrinsic_Pieces.f y139).bind fun t163 => ((stickfulref21_Same.f k t163 (([(⟨0, 3⟩ : S50), (⟨3, 4⟩ : S50)] : List (S50)))).bind fun t169 => (if t169 = true then ((intrinsic_Pieces.f y142).bind fun t170 => ((stickfulref21_Same.f k t170 (([(⟨0, 3⟩ : S50), (⟨3, 5⟩ : S50)] : List (S50)))).bind fun t176 => (if t176 = true then (if t145 = 10 then (if t146 = 20 then (if t147 = 0 then (if t148 = 10 then (if t149 = 10 then (if t150 = 0 then (if t154 = 0 then (if t155 = 0 then (if t156 = 0 then (some (bt160.2.2 == 2)) else (some false)) else (some false)) else (some false)) else (some false)) else (some false)) else (some false)) else (some false)) else (some false)) else (some false)) else (some false)))) else (some false))))) = some r := by first | (rw [hy157]; with_reducible exact H) | (have H2_ := (Option.bind_some _ _).symm.trans H; rw [hy157]; with_reducible exact H2_) | (have H2_ := (Option.bind_some _ _).symm.trans H; with_reducible exact H2_) | with_reducible exact H | (rw [hy157]; exact H) | exact H
  have Ny157 := Aside0.mk hy157
  clear hy157
  replace H := Option.bind_eq_some_iff.mp H
  obtain ⟨⟨t160, t161, t162⟩, A40, H⟩ := H
  replace H : ((intrinsic_Pieces.f y139).bind fun t163 => ((stickfulref21_Same.f k t163 (([(⟨0, 3⟩ : S50), (⟨3, 4⟩ : S50)] : List (S50)))).bind fun t169 => (if t169 = true then ((intrinsic_Pieces.f y142).bind fun t170 => ((stickfulref21_Same.f k t170 (([(⟨0, 3⟩ : S50), (⟨3, 5⟩ : S50)] : List (S50)))).bind fun t176 => (if t176 = true then (if t145 = 10 then (if t146 = 20 then (if t147 = 0 then (if t148 = 10 then (if t149 = 10 then (if t150 = 0 then (if t154 = 0 then (if t155 = 0 then (if t156 = 0 then (some (t162 == 2)) else (some false)) else (some false)) else (some false)) else (some false)) else (some false)) else (some false)) else (some false)) else (some false)) else (some false)) else (some false)))) else (some false)))) = some r := H
  have A4 := Aside0.mk A40
  clear A40
  replace H := Option.bind_eq_some_iff.mp H
  obtain ⟨t163, A50, H⟩ := H
  replace H : ((stickfulref21_Same.f k t163 (([(⟨0, 3⟩ : S50), (⟨3, 4⟩ : S50)] : List (S50)))).bind fun t169 => (if t169 = true then ((intrinsic_Pieces.f y142).bind fun t170 => ((stickfulref21_Same.f k t170 (([(⟨0, 3⟩ : S50), (⟨3, 5⟩ : S50)] : List (S50)))).bind fun t176 => (if t176 = true then (if t145 = 10 then (if t146 = 20 then (if t147 = 0 then (if t148 = 10 then (if t149 = 10 then (if t150 = 0 then (if t154 = 0 then (if t155 = 0 then (if t156 = 0 then (some (t162 == 2)) else (some false)) else (some false)) else (some false)) else (some false)) else (some false)) else (some false)) else (some false)) else (some false)) else (some false)) else (some false)))) else (some false))) = some r := H
  have A5 := Aside0.mk A50
  clear A50
  obtain ⟨y166, hy166⟩ : ∃ y_ : List (S50), y_ = (([(⟨0, 3⟩ : S50), (⟨3, 4⟩ : S50)] : List (S50))) := ⟨_, rfl⟩
  replace H : ((stickfulref21_Same.f k t163 y166).bind fun t169 => (if t169 = true then ((intrinsic_Pieces.f y142).bind fun t170 => ((stickfulref21_Same.f k t170 (([(⟨0, 3⟩ : S50), (⟨3, 5⟩ : S50)] : List (S50)))).bind fun t176 => (if t176 = true then (if t145 = 10 then (if t146 = 20 then (if t147 = 0 then (if t148 = 10 then (if t149 = 10 then (if t150 = 0 then (if t154 = 0 then (if t155 = 0 then (if t156 = 0 then (some (t162 == 2)) else (some false)) else (some false)) else (some false)) else (some false)) else (some false)) else (some false)) else (some false)) else (some false)) else (some false)) else (some false)))) else (some false))) = some r := by first | (rw [hy166]; with_reducible exact H) | (have H2_ := (Option.bind_some _ _).symm.trans H; rw [hy166]; with_reducible exact H2_) | (have H2_ := (Option.bind_some _ _).symm.trans H; with_reducible exact H2_) | with_reducible exact H | (rw [hy166]; exact H) | exact H
  have Ny166 := Aside0.mk hy166
  clear hy166
  replace H := Option.bind_eq_some_iff.mp H
  obtain ⟨t169, A60, H⟩ := H
  replace H : (if t169 = true then ((intrinsic_Pieces.f y142).bind fun t170 => ((stickfulref21_Same.f k t170 (([(⟨0, 3⟩ : S50), (⟨3, 5⟩ : S50)] : List (S50)))).bind fun t176 => (if t176 = true then (if t145 = 10 then (if t146 = 20 then (if t147 = 0 then (if t148 = 10 then (if t149 = 10 then (if t150 = 0 then (if t154 = 0 then (if t155 = 0 then (if t156 = 0 then (some (t162 == 2)) else (some false)) else (some false)) else (some false)) else (some false)) else (some false)) else (some false)) else (some false)) else (some false)) else (some false)) else (some false)))) else (some false)) = some r := H
  have A6 := Aside0.mk A60
  clear A60
  by_cases c7 : t169 = true
  · subst c7
    have H1 : ((intrinsic_Pieces.f y142).bind fun t170 => ((stickfulref21_Same.f k t170 (([(⟨0, 3⟩ : S50), (⟨3, 5⟩ : S50)] : List (S50)))).bind fun t176 => (if t176 = true then (if t145 = 10 then (if t146 = 20 then (if t147 = 0 then (if t148 = 10 then (if t149 = 10 then (if t150 = 0 then (if t154 = 0 then (if t155 = 0 then (if t156 = 0 then (some (t162 == 2)) else (some false)) else (some false)) else (some false)) else (some false)) else (some false)) else (some false)) else (some false)) else (some false)) else (some false)) else (some false)))) = some r := by rw [if_pos rfl] at H; exact H
    clear H
    have H := H1
    clear H1
    replace H := Option.bind_eq_some_iff.mp H
    obtain ⟨t170, A80, H⟩ := H
    replace H : ((stickfulref21_Same.f k t170 (([(⟨0, 3⟩ : S50), (⟨3, 5⟩ : S50)] : List (S50)))).bind fun t176 => (if t176 = true then (if t145 = 10 then (if t146 = 20 then (if t147 = 0 then (if t148 = 10 then (if t149 = 10 then (if t150 = 0 then (if t154 = 0 then (if t155 = 0 then (if t156 = 0 then (some (t162 == 2)) else (some false)) else (some false)) else (some false)) else (some false)) else (some false)) else (some false)) else (some false)) else (some false)) else (some false)) else (some false))) = some r := H
    have A8 := Aside0.mk A80
    clear A80
    obtain ⟨y173, hy173⟩ : ∃ y_ : List (S50), y_ = (([(⟨0, 3⟩ : S50), (⟨3, 5⟩ : S50)] : List (S50))) := ⟨_, rfl⟩
    replace H : ((stickfulref21_Same.f k t170 y173).bind fun t176 => (if t176 = true then (if t145 = 10 then (if t146 = 20 then (if t147 = 0 then (if t148 = 10 then (if t149 = 10 then (if t150 = 0 then (if t154 = 0 then (if t155 = 0 then (if t156 = 0 then (some (t162 == 2)) else (some false)) else (some false)) else (some false)) else (some false)) else (some false)) else (some false)) else (some false)) else (some false)) else (some false)) else (some false))) = some r := by first | (rw [hy173]; with_reducible exact H) | (have H2_ := (Option.bind_some _ _).symm.trans H; rw [hy173]; with_reducible exact H2_) | (have H2_ := (Option.bind_some _ _).symm.trans H; with_reducible exact H2_) | with_reducible exact H | (rw [hy173]; exact H) | exact H
    have Ny173 := Aside0.mk hy173
    clear hy173
    replace H := Option.bind_eq_some_iff.mp H
    obtain ⟨t176, A90, H⟩ := H
    replace H : (if t176 = true then (if t145 = 10 then (if t146 = 20 then (if t147 = 0 then (if t148 = 10 then (if t149 = 10 then (if t150 = 0 then (if t154 = 0 then (if t155 = 0 then (if t156 = 0 then (some (t162 == 2)) else (some false)) else (some false)) else (some false)) else (some false)) else (some false)) else (some false)) else (some false)) else (some false)) else (some false)) else (some false)) = some r := H
    have A9 := Aside0.mk A90
    clear A90
    by_cases c10 : t176 = true
    · subst c10
      have H1 : (if t145 = 10 then (if t146 = 20 then (if t147 = 0 then (if t148 = 10 then (if t149 = 10 then (if t150 = 0 then (if t154 = 0 then (if t155 = 0 then (if t156 = 0 then (some (t162 == 2)) else (some false)) else (some false)) else (some false)) else (some false)) else (some false)) else (some false)) else (some false)) else (some false)) else (some false)) = some r := by rw [if_pos rfl] at H; exact H
      clear H
      have H := H1
      clear H1
      by_cases c11 : t145 = 10
      · rw [if_pos c11] at H
        have c11b0 : (t145 == 10) = true := beq_iff_eq.mpr c11
        have c11b1 : (t145 != 10) = false := bne_eq_false_iff_eq.mpr c11
        clear c11
        by_cases c12 : t146 = 20
        · rw [if_pos c12] at H
          have c12b0 : (t146 == 20) = true := beq_iff_eq.mpr c12
          have c12b1 : (t146 != 20) = false := bne_eq_false_iff_eq.mpr c12
          clear c12
          by_cases c13 : t147 = 0
          · rw [if_pos c13] at H
            have c13b0 : (t147 == 0) = true := beq_iff_eq.mpr c13
            have c13b1 : (t147 != 0) = false := bne_eq_false_iff_eq.mpr c13
            clear c13
            by_cases c14 : t148 = 10
            · rw [if_pos c14] at H
              have c14b0 : (t148 == 10) = true := beq_iff_eq.mpr c14
              have c14b1 : (t148 != 10) = false := bne_eq_false_iff_eq.mpr c14
              clear c14
              by_cases c15 : t149 = 10
              · rw [if_pos c15] at H
                have c15b0 : (t149 == 10) = true := beq_iff_eq.mpr c15
                have c15b1 : (t149 != 10) = false := bne_eq_false_iff_eq.mpr c15
                clear c15
                by_cases c16 : t150 = 0
                · rw [if_pos c16] at H
                  have c16b0 : (t150 == 0) = true := beq_iff_eq.mpr c16
                  have c16b1 : (t150 != 0) = false := bne_eq_false_iff_eq.mpr c16
                  clear c16
                  by_cases c17 : t154 = 0
                  · rw [if_pos c17] at H
                    have c17b0 : (t154 == 0) = true := beq_iff_eq.mpr c17
                    have c17b1 : (t154 != 0) = false := bne_eq_false_iff_eq.mpr c17
                    clear c17
                    by_cases c18 : t155 = 0
                    · rw [if_pos c18] at H
                      have c18b0 : (t155 == 0) = true := beq_iff_eq.mpr c18
                      have c18b1 : (t155 != 0) = false := bne_eq_false_iff_eq.mpr c18
                      clear c18
                      by_cases c19 : t156 = 0
                      · rw [if_pos c19] at H
                        have c19b0 : (t156 == 0) = true := beq_iff_eq.mpr c19
                        have c19b1 : (t156 != 0) = false := bne_eq_false_iff_eq.mpr c19
                        clear c19
                        obtain rfl := Option.some.inj H
                        go_enter Try.func24, Try.ntmps24
                        go_wp2_with (first | ((with_reducible refine gate_dst (N := 1) rfl ?_); (try (refine gate_guard (by rfl) ?_; dsimp only)); refine box_event ?hg (N := 1) ?hd (cs := #[.int .u8 0, .int .i64 0, .int .i64 0, .int .i64 0, .bool false, .bool false]) (t := 35) ?hr ?_; (case hd => rfl); (case hg => rfl); (case hr => first | (go_simp; done) | (go_simp; rfl)); intro gb135 hg w20 hbox hb; have BK135 := Aside0.mk (hbox); have GW135 := bge HB hg; have GE135 := bge HB hg; replace HB := bh HB hb; clear hb hbox hg) | ((with_reducible refine gate_dst (N := 2) rfl ?_); (try (refine gate_guard (by rfl) ?_; dsimp only)); refine box_event ?hg (N := 2) ?hd (cs := #[.int .u8 0, .int .i64 0, .int .i64 0, .int .i64 0, .bool false, .bool false]) (t := 35) ?hr ?_; (case hd => rfl); (case hg => rfl); (case hr => first | (go_simp; done) | (go_simp; rfl)); intro gb136 hg w21 hbox hb; have BK136 := Aside0.mk (hbox); have GW136 := bge HB hg; have GE136 := bge HB hg; replace HB := bh HB hb; have NB135_136 := nbl BK135 hg; have NB136_135 := nbg BK135 hg; replace BK135 := bb BK135 hb; clear hb hbox hg; have hnb22 := NB135_136.out; have hnc22 := NB136_135.out; obtain ⟨hcz23_0, hcz23_1, hcz23_2, hcz23_3, hcz23_4, hcz23_5⟩ := cz6 BK135; obtain ⟨hfz23_0, hfz23_1, hfz23_2, hfz23_3, hfz23_4, hfz23_5⟩ := fz6 BK135; obtain ⟨hcz24_0, hcz24_1, hcz24_2, hcz24_3, hcz24_4, hcz24_5⟩ := cz6 BK136; obtain ⟨hfz24_0, hfz24_1, hfz24_2, hfz24_3, hfz24_4, hfz24_5⟩ := fz6 BK136) | ((with_reducible refine gate_dst (N := 3) rfl ?_); (try (refine gate_guard (by rfl) ?_; dsimp only)); refine box_event ?hg (N := 3) ?hd (cs := #[.int .u8 0, .int .i64 0, .int .i64 0, .int .i64 0, .bool false, .bool false]) (t := 35) ?hr ?_; (case hd => rfl); (case hg => rfl); (case hr => first | (go_simp; done) | (go_simp; rfl)); intro gb137 hg w25 hbox hb; have BK137 := Aside0.mk (hbox); have GW137 := bge HB hg; have GE137 := bge HB hg; replace HB := bh HB hb; have NB135_137 := Aside0.mk ((by rw [hg]; exact Nat.ne_of_lt (blk_lt (o := .cells #[.int .u8 0, .int .i64 0, .int .i64 0, .int .i64 5, .bool false, .bool false] 35 (0, 0)) (bp BK135)) : gb135 ≠ gb137)); have NB137_135 := Aside0.mk ((by rw [hg]; exact Nat.ne_of_gt (blk_lt (o := .cells #[.int .u8 0, .int .i64 0, .int .i64 0, .int .i64 5, .bool false, .bool false] 35 (0, 0)) (bp BK135)) : gb137 ≠ gb135)); replace BK135 := Aside0.mk (blk_below (o := .cells #[.int .u8 0, .int .i64 0, .int .i64 0, .int .i64 5, .bool false, .bool false] 35 (0, 0)) (bp BK135) hb); have NB136_137 := Aside0.mk ((by rw [hg]; exact Nat.ne_of_lt (blk_lt (o := .cells #[.int .u8 1, .int .i64 0, .int .i64 0, .int .i64 5, .bool false, .bool false] 35 (0, 0)) (bp BK136)) : gb136 ≠ gb137)); have NB137_136 := Aside0.mk ((by rw [hg]; exact Nat.ne_of_gt (blk_lt (o := .cells #[.int .u8 1, .int .i64 0, .int .i64 0, .int .i64 5, .bool false, .bool false] 35 (0, 0)) (bp BK136)) : gb137 ≠ gb136)); replace BK136 := Aside0.mk (blk_below (o := .cells #[.int .u8 1, .int .i64 0, .int .i64 0, .int .i64 5, .bool false, .bool false] 35 (0, 0)) (bp BK136) hb); clear hb hbox hg) | ((with_reducible refine gate_dst (N := 4) rfl ?_); (try (refine gate_guard (by rfl) ?_; dsimp only)); refine box_event ?hg (N := 4) ?hd (cs := #[.int .u8 0, .int .i64 0, .int .i64 0, .int .i64 0, .bool false, .bool false]) (t := 35) ?hr ?_; (case hd => rfl); (case hg => rfl); (case hr => first | (go_simp; done) | (go_simp; rfl)); intro gb138 hg w26 hbox hb; have BK138 := Aside0.mk (hbox); have GW138 := bge HB hg; have GE138 := bge HB hg; replace HB := bh HB hb; have NB135_138 := nbl BK135 hg; have NB138_135 := nbg BK135 hg; replace BK135 := bb BK135 hb; have NB136_138 := nbl BK136 hg; have NB138_136 := nbg BK136 hg; replace BK136 := bb BK136 hb; have NB137_138 := nbl BK137 hg; have NB138_137 := nbg BK137 hg; replace BK137 := bb BK137 hb; clear hb hbox hg; have hnb27 := NB137_135.out; have hnc27 := NB135_137.out; have hnb28 := NB137_136.out; have hnc28 := NB136_137.out; have hnb29 := NB137_138.out; have hnc29 := NB138_137.out; obtain ⟨hcz30_0, hcz30_1, hcz30_2, hcz30_3, hcz30_4, hcz30_5⟩ := cz6 BK137; obtain ⟨hfz30_0, hfz30_1, hfz30_2, hfz30_3, hfz30_4, hfz30_5⟩ := fz6 BK137; have hnb31 := NB138_135.out; have hnc31 := NB135_138.out; have hnb32 := NB138_136.out; have hnc32 := NB136_138.out; obtain ⟨hcz33_0, hcz33_1, hcz33_2, hcz33_3, hcz33_4, hcz33_5⟩ := cz6 BK138; obtain ⟨hfz33_0, hfz33_1, hfz33_2, hfz33_3, hfz33_4, hfz33_5⟩ := fz6 BK138; obtain ⟨hcz34_0, hcz34_1, hcz34_2, hcz34_3, hcz34_4, hcz34_5⟩ := cz6 BK135; obtain ⟨hfz34_0, hfz34_1, hfz34_2, hfz34_3, hfz34_4, hfz34_5⟩ := fz6 BK135; obtain ⟨hcz35_0, hcz35_1, hcz35_2, hcz35_3, hcz35_4, hcz35_5⟩ := cz6 BK136; obtain ⟨hfz35_0, hfz35_1, hfz35_2, hfz35_3, hfz35_4, hfz35_5⟩ := fz6 BK136) | ((with_reducible refine gate_dst (N := 27) rfl ?_); (try (refine gate_guard (by rfl) ?_; dsimp only)); refine Kd.R_lit k35 _ 35 ?hg (N := 27) ?hd (xs := ([(⟨0, 0, 0, 5, false, false⟩ : S35), (⟨0, 0, 0, 5, false, false⟩ : S35), (⟨1, 0, 0, 5, false, false⟩ : S35), (⟨0, 0, 0, 5, true, false⟩ : S35)] : List (S35))) (inner := [.int .u8 0, .int .i64 0, .int .i64 0, .int .i64 5, .bool false, .bool false, .int .u8 0, .int .i64 0, .int .i64 0, .int .i64 5, .bool false, .bool false, .int .u8 1, .int .i64 0, .int .i64 0, .int .i64 5, .bool false, .bool false, .int .u8 0, .int .i64 0, .int .i64 0, .int .i64 5, .bool true, .bool false]) (ok := fun _ => True) (okp := fun _ => True) ?hr ?hp (fun _ hk => hk) trivial (Below.refl _ _) (Nat.le_refl _) (by simp) ?_; (case hd => rfl); (case hg => rfl); (case hr => first | (go_simp; done) | (go_simp; rfl)); (case hp => exact (Reps.c6 (show Kd.M k35 _ _ _ (⟨0, 0, 0, 5, false, false⟩ : S35) [.int .u8 0, .int .i64 0, .int .i64 0, .int .i64 5, .bool false, .bool false] from (k35_mkM _ _ _ (⟨0, 0, 0, 5, false, false⟩ : S35) )) (Reps.c6 (show Kd.M k35 _ _ _ (⟨0, 0, 0, 5, false, false⟩ : S35) [.int .u8 0, .int .i64 0, .int .i64 0, .int .i64 5, .bool false, .bool false] from (k35_mkM _ _ _ (⟨0, 0, 0, 5, false, false⟩ : S35) )) (Reps.c6 (show Kd.M k35 _ _ _ (⟨1, 0, 0, 5, false, false⟩ : S35) [.int .u8 1, .int .i64 0, .int .i64 0, .int .i64 5, .bool false, .bool false] from (k35_mkM _ _ _ (⟨1, 0, 0, 5, false, false⟩ : S35) )) (Reps.c6 (show Kd.M k35 _ _ _ (⟨0, 0, 0, 5, true, false⟩ : S35) [.int .u8 0, .int .i64 0, .int .i64 0, .int .i64 5, .bool true, .bool false] from (k35_mkM _ _ _ (⟨0, 0, 0, 5, true, false⟩ : S35) )) (Reps.none _ _)))))); intro v140 w36 ho37 hb hg_ hnew_; clear hg_ hnew_; (first | rw [← Ny139.out] at ho37 | (simp only [Int.reduceToNat] at ho37; rw [← Ny139.out] at ho37)); have HO141 := Aside0.mk (Kd.R_lower (Kd.R_newB (Kd.R_newB (Kd.R_newB (Kd.R_newB ho37 (bx BK135)) (bx BK136)) (o := .cells #[.int .u8 0, .int .i64 0, .int .i64 0, .int .i64 5, .bool true, .bool false] 35 (0, 0)) (bp BK137)) (o := .cells #[.int .u8 5, .int .i64 0, .int .i64 0, .int .i64 0, .bool false, .bool false] 35 (0, 0)) (bp BK138)) (below_size (bw HB))); replace BK135 := bb BK135 hb; replace BK136 := bb BK136 hb; replace BK137 := Aside0.mk (blk_below (o := .cells #[.int .u8 0, .int .i64 0, .int .i64 0, .int .i64 5, .bool true, .bool false] 35 (0, 0)) (bp BK137) hb); replace BK138 := Aside0.mk (blk_below (o := .cells #[.int .u8 5, .int .i64 0, .int .i64 0, .int .i64 0, .bool false, .bool false] 35 (0, 0)) (bp BK138) hb); replace HB := bh HB hb; clear hb ho37; obtain ⟨hcz38_0, hcz38_1, hcz38_2, hcz38_3, hcz38_4, hcz38_5⟩ := cz6 BK135; obtain ⟨hfz38_0, hfz38_1, hfz38_2, hfz38_3, hfz38_4, hfz38_5⟩ := fz6 BK135; obtain ⟨hcz39_0, hcz39_1, hcz39_2, hcz39_3, hcz39_4, hcz39_5⟩ := cz6 BK136; obtain ⟨hfz39_0, hfz39_1, hfz39_2, hfz39_3, hfz39_4, hfz39_5⟩ := fz6 BK136; obtain ⟨hcz40_0, hcz40_1, hcz40_2, hcz40_3, hcz40_4, hcz40_5⟩ := cz6 BK138; obtain ⟨hfz40_0, hfz40_1, hfz40_2, hfz40_3, hfz40_4, hfz40_5⟩ := fz6 BK138; obtain ⟨hcz41_0, hcz41_1, hcz41_2, hcz41_3, hcz41_4, hcz41_5⟩ := cz6 BK137; obtain ⟨hfz41_0, hfz41_1, hfz41_2, hfz41_3, hfz41_4, hfz41_5⟩ := fz6 BK137) | ((with_reducible refine gate_dst (N := 33) rfl ?_); (try (refine gate_guard (by rfl) ?_; dsimp only)); refine Kd.R_lit k35 _ 35 ?hg (N := 33) ?hd (xs := ([(⟨0, 0, 0, 5, false, false⟩ : S35), (⟨1, 0, 0, 5, false, false⟩ : S35), (⟨5, 0, 0, 0, false, false⟩ : S35), (⟨0, 0, 0, 5, true, false⟩ : S35), (⟨0, 0, 0, 5, false, false⟩ : S35)] : List (S35))) (inner := [.int .u8 0, .int .i64 0, .int .i64 0, .int .i64 5, .bool false, .bool false, .int .u8 1, .int .i64 0, .int .i64 0, .int .i64 5, .bool false, .bool false, .int .u8 5, .int .i64 0, .int .i64 0, .int .i64 0, .bool false, .bool false, .int .u8 0, .int .i64 0, .int .i64 0, .int .i64 5, .bool true, .bool false, .int .u8 0, .int .i64 0, .int .i64 0, .int .i64 5, .bool false, .bool false]) (ok := fun _ => True) (okp := fun _ => True) ?hr ?hp (fun _ hk => hk) trivial (Below.refl _ _) (Nat.le_refl _) (by simp) ?_; (case hd => rfl); (case hg => rfl); (case hr => first | (go_simp; done) | (go_simp; rfl)); (case hp => exact (Reps.c6 (show Kd.M k35 _ _ _ (⟨0, 0, 0, 5, false, false⟩ : S35) [.int .u8 0, .int .i64 0, .int .i64 0, .int .i64 5, .bool false, .bool false] from (k35_mkM _ _ _ (⟨0, 0, 0, 5, false, false⟩ : S35) )) (Reps.c6 (show Kd.M k35 _ _ _ (⟨1, 0, 0, 5, false, false⟩ : S35) [.int .u8 1, .int .i64 0, .int .i64 0, .int .i64 5, .bool false, .bool false] from (k35_mkM _ _ _ (⟨1, 0, 0, 5, false, false⟩ : S35) )) (Reps.c6 (show Kd.M k35 _ _ _ (⟨5, 0, 0, 0, false, false⟩ : S35) [.int .u8 5, .int .i64 0, .int .i64 0, .int .i64 0, .bool false, .bool false] from (k35_mkM _ _ _ (⟨5, 0, 0, 0, false, false⟩ : S35) )) (Reps.c6 (show Kd.M k35 _ _ _ (⟨0, 0, 0, 5, true, false⟩ : S35) [.int .u8 0, .int .i64 0, .int .i64 0, .int .i64 5, .bool true, .bool false] from (k35_mkM _ _ _ (⟨0, 0, 0, 5, true, false⟩ : S35) )) (Reps.c6 (show Kd.M k35 _ _ _ (⟨0, 0, 0, 5, false, false⟩ : S35) [.int .u8 0, .int .i64 0, .int .i64 0, .int .i64 5, .bool false, .bool false] from (k35_mkM _ _ _ (⟨0, 0, 0, 5, false, false⟩ : S35) )) (Reps.none _ _))))))); intro v143 w42 ho43 hb hg_ hnew_; clear hg_ hnew_; (first | rw [← Ny142.out] at ho43 | (simp only [Int.reduceToNat] at ho43; rw [← Ny142.out] at ho43)); have HO144 := Aside0.mk (Kd.R_lower (Kd.R_newB (Kd.R_newB (Kd.R_newB (Kd.R_newB (Kd.R_new' ho43 (Kd.R_lt (rx HO141))) (bx BK135)) (bx BK136)) (bx BK137)) (bx BK138)) (below_size (bw HB))); replace HO141 := Aside0.mk (Kd.R_elder' (rx HO141) (Kd.R_base ho43) hb); replace BK135 := bb BK135 hb; replace BK136 := bb BK136 hb; replace BK137 := bb BK137 hb; replace BK138 := bb BK138 hb; replace HB := bh HB hb; clear hb ho43; obtain ⟨Ao44, co44, eo44⟩ := Kd.R_slice HO141.out; subst eo44) | ((with_reducible refine gate_callee (f := 25) rfl ?_); refine goesB (some 36) rfl rfl Try.func25 #[.slice Ao44 y139.length co44] rfl ?_; (with_reducible refine (intrinsic_MinMax.calls _ _ y139 t145 t146 t147 _ ?side1 ?side2 A1.out).mono ?_); (case side1 => repeat (first | exact (Kd.R_reads' HO141.out).2.2 | (with_reducible refine Kd.C_alloc ?_ _) | (with_reducible refine Kd.C_drewN ?_ _) | (with_reducible refine Kd.C_drew ?_))); (case side2 => exact (Kd.R_reads' HO141.out).2.1); rintro e w45 ⟨rfl, hb⟩; refine ⟨_, rfl, ?_⟩; replace HO141 := Aside0.mk (Kd.R_below (rx HO141) hb); replace HO144 := Aside0.mk (Kd.R_below (rx HO144) hb); replace BK135 := bb BK135 hb; replace BK136 := bb BK136 hb; replace BK137 := bb BK137 hb; replace BK138 := bb BK138 hb; replace HB := bh HB hb; (try clear hb); (try clear hb2); (try clear hk); (try clear hi); obtain ⟨Ao46, co46, eo46⟩ := Kd.R_slice HO144.out; subst eo46) | ((with_reducible refine gate_callee (f := 25) rfl ?_); refine goesB (some 42) rfl rfl Try.func25 #[.slice Ao46 y142.length co46] rfl ?_; (with_reducible refine (intrinsic_MinMax.calls _ _ y142 t148 t149 t150 _ ?side1 ?side2 A2.out).mono ?_); (case side1 => repeat (first | exact (Kd.R_reads' HO144.out).2.2 | (with_reducible refine Kd.C_alloc ?_ _) | (with_reducible refine Kd.C_drewN ?_ _) | (with_reducible refine Kd.C_drew ?_))); (case side2 => exact (Kd.R_reads' HO144.out).2.1); rintro e w47 ⟨rfl, hb⟩; refine ⟨_, rfl, ?_⟩; replace HO141 := Aside0.mk (Kd.R_below (rx HO141) hb); replace HO144 := Aside0.mk (Kd.R_below (rx HO144) hb); replace BK135 := bb BK135 hb; replace BK136 := bb BK136 hb; replace BK137 := bb BK137 hb; replace BK138 := bb BK138 hb; replace HB := bh HB hb; (try clear hb); (try clear hb2); (try clear hk); (try clear hi); obtain ⟨hcz48_0, hcz48_1, hcz48_2, hcz48_3, hcz48_4, hcz48_5⟩ := cz6 BK136; obtain ⟨hfz48_0, hfz48_1, hfz48_2, hfz48_3, hfz48_4, hfz48_5⟩ := fz6 BK136) | ((with_reducible refine gate_dst (N := 49) rfl ?_); (try (refine gate_guard (by rfl) ?_; dsimp only)); refine Kd.R_lit k35 _ 35 ?hg (N := 49) ?hd (xs := ([(⟨1, 0, 0, 5, false, false⟩ : S35), (⟨1, 0, 0, 5, false, false⟩ : S35)] : List (S35))) (inner := [.int .u8 1, .int .i64 0, .int .i64 0, .int .i64 5, .bool false, .bool false, .int .u8 1, .int .i64 0, .int .i64 0, .int .i64 5, .bool false, .bool false]) (ok := fun _ => True) (okp := fun _ => True) ?hr ?hp (fun _ hk => hk) trivial (Below.refl _ _) (Nat.le_refl _) (by simp) ?_; (case hd => rfl); (case hg => rfl); (case hr => first | (go_simp; done) | (go_simp; rfl)); (case hp => exact (Reps.c6 (show Kd.M k35 _ _ _ (⟨1, 0, 0, 5, false, false⟩ : S35) [.int .u8 1, .int .i64 0, .int .i64 0, .int .i64 5, .bool false, .bool false] from (k35_mkM _ _ _ (⟨1, 0, 0, 5, false, false⟩ : S35) )) (Reps.c6 (show Kd.M k35 _ _ _ (⟨1, 0, 0, 5, false, false⟩ : S35) [.int .u8 1, .int .i64 0, .int .i64 0, .int .i64 5, .bool false, .bool false] from (k35_mkM _ _ _ (⟨1, 0, 0, 5, false, false⟩ : S35) )) (Reps.none _ _)))); intro v152 w49 ho50 hb hg_ hnew_; clear hg_ hnew_; (first | rw [← Ny151.out] at ho50 | (simp only [Int.reduceToNat] at ho50; rw [← Ny151.out] at ho50)); have HO153 := Aside0.mk (Kd.R_lower (Kd.R_newB (Kd.R_newB (Kd.R_newB (Kd.R_newB (Kd.R_new' (Kd.R_new' ho50 (Kd.R_lt (rx HO141))) (Kd.R_lt (rx HO144))) (bx BK135)) (bx BK136)) (bx BK137)) (bx BK138)) (below_size (bw HB))); replace HO141 := Aside0.mk (Kd.R_elder' (rx HO141) (Kd.R_base ho50) hb); replace HO144 := Aside0.mk (Kd.R_elder' (rx HO144) (Kd.R_base ho50) hb); replace BK135 := bb BK135 hb; replace BK136 := bb BK136 hb; replace BK137 := bb BK137 hb; replace BK138 := bb BK138 hb; replace HB := bh HB hb; clear hb ho50; obtain ⟨Ao51, co51, eo51⟩ := Kd.R_slice HO153.out; subst eo51) | ((with_reducible refine gate_callee (f := 25) rfl ?_); refine goesB (some 50) rfl rfl Try.func25 #[.slice Ao51 y151.length co51] rfl ?_; (with_reducible refine (intrinsic_MinMax.calls _ _ y151 t154 t155 t156 _ ?side1 ?side2 A3.out).mono ?_); (case side1 => repeat (first | exact (Kd.R_reads' HO153.out).2.2 | (with_reducible refine Kd.C_alloc ?_ _) | (with_reducible refine Kd.C_drewN ?_ _) | (with_reducible refine Kd.C_drew ?_))); (case side2 => exact (Kd.R_reads' HO153.out).2.1); rintro e w52 ⟨rfl, hb⟩; refine ⟨_, rfl, ?_⟩; replace HO141 := Aside0.mk (Kd.R_below (rx HO141) hb); replace HO144 := Aside0.mk (Kd.R_below (rx HO144) hb); replace HO153 := Aside0.mk (Kd.R_below (rx HO153) hb); replace BK135 := bb BK135 hb; replace BK136 := bb BK136 hb; replace BK137 := bb BK137 hb; replace BK138 := bb BK138 hb; replace HB := bh HB hb; (try clear hb); (try clear hb2); (try clear hk); (try clear hi)) | ((with_reducible refine gate_dst (N := 56) rfl ?_); (try (refine gate_guard (by rfl) ?_; dsimp only)); refine Kd.R_lit k35 _ 35 ?hg (N := 56) ?hd (xs := ([(⟨4, 0, 0, (-1), false, false⟩ : S35)] : List (S35))) (inner := [.int .u8 4, .int .i64 0, .int .i64 0, .int .i64 (-1), .bool false, .bool false]) (ok := fun _ => True) (okp := fun _ => True) ?hr ?hp (fun _ hk => hk) trivial (Below.refl _ _) (Nat.le_refl _) (by simp) ?_; (case hd => rfl); (case hg => rfl); (case hr => first | (go_simp; done) | (go_simp; rfl)); (case hp => exact (Reps.c6 (show Kd.M k35 _ _ _ (⟨4, 0, 0, (-1), false, false⟩ : S35) [.int .u8 4, .int .i64 0, .int .i64 0, .int .i64 (-1), .bool false, .bool false] from (k35_mkM _ _ _ (⟨4, 0, 0, (-1), false, false⟩ : S35) )) (Reps.none _ _))); intro v158 w53 ho54 hb hg_ hnew_; clear hg_ hnew_; (first | rw [← Ny157.out] at ho54 | (simp only [Int.reduceToNat] at ho54; rw [← Ny157.out] at ho54)); have HO159 := Aside0.mk (Kd.R_lower (Kd.R_newB (Kd.R_newB (Kd.R_newB (Kd.R_newB (Kd.R_new' (Kd.R_new' (Kd.R_new' ho54 (Kd.R_lt (rx HO141))) (Kd.R_lt (rx HO144))) (Kd.R_lt (rx HO153))) (bx BK135)) (bx BK136)) (bx BK137)) (bx BK138)) (below_size (bw HB))); replace HO141 := Aside0.mk (Kd.R_elder' (rx HO141) (Kd.R_base ho54) hb); replace HO144 := Aside0.mk (Kd.R_elder' (rx HO144) (Kd.R_base ho54) hb); replace HO153 := Aside0.mk (Kd.R_elder' (rx HO153) (Kd.R_base ho54) hb); replace BK135 := bb BK135 hb; replace BK136 := bb BK136 hb; replace BK137 := bb BK137 hb; replace BK138 := bb BK138 hb; replace HB := bh HB hb; clear hb ho54; obtain ⟨Ao55, co55, eo55⟩ := Kd.R_slice HO159.out; subst eo55) | ((with_reducible refine gate_callee (f := 25) rfl ?_); refine goesB (some 57) rfl rfl Try.func25 #[.slice Ao55 y157.length co55] rfl ?_; (with_reducible refine (intrinsic_MinMax.calls _ _ y157 t160 t161 t162 _ ?side1 ?side2 A4.out).mono ?_); (case side1 => repeat (first | exact (Kd.R_reads' HO159.out).2.2 | (with_reducible refine Kd.C_alloc ?_ _) | (with_reducible refine Kd.C_drewN ?_ _) | (with_reducible refine Kd.C_drew ?_))); (case side2 => exact (Kd.R_reads' HO159.out).2.1); rintro e w56 ⟨rfl, hb⟩; refine ⟨_, rfl, ?_⟩; replace HO141 := Aside0.mk (Kd.R_below (rx HO141) hb); replace HO144 := Aside0.mk (Kd.R_below (rx HO144) hb); replace HO153 := Aside0.mk (Kd.R_below (rx HO153) hb); replace HO159 := Aside0.mk (Kd.R_below (rx HO159) hb); replace BK135 := bb BK135 hb; replace BK136 := bb BK136 hb; replace BK137 := bb BK137 hb; replace BK138 := bb BK138 hb; replace HB := bh HB hb; (try clear hb); (try clear hb2); (try clear hk); (try clear hi)) | ((with_reducible refine gate_callee (f := 31) rfl ?_); refine goesB (some 62) rfl rfl Try.func31 #[.slice Ao44 y139.length co44] rfl ?_; (with_reducible refine (intrinsic_Pieces.calls _ _ y139 t163 _ ?side1 ?side2 A5.out).mono ?_); (case side1 => repeat (first | exact (Kd.R_reads' HO141.out).2.2 | (with_reducible refine Kd.C_alloc ?_ _) | (with_reducible refine Kd.C_drewN ?_ _) | (with_reducible refine Kd.C_drew ?_))); (case side2 => exact (Kd.R_reads' HO141.out).2.1); rintro e w57 ⟨v164, rfl, ho0, hb⟩; refine ⟨_, rfl, ?_⟩; replace HO141 := Aside0.mk (Kd.R_below (rx HO141) hb); replace HO144 := Aside0.mk (Kd.R_below (rx HO144) hb); replace HO153 := Aside0.mk (Kd.R_below (rx HO153) hb); replace HO159 := Aside0.mk (Kd.R_below (rx HO159) hb); have HO165 := Aside0.mk (Kd.R_lower ho0 (below_size (bw HB))); replace BK135 := bb BK135 hb; replace BK136 := bb BK136 hb; replace BK137 := bb BK137 hb; replace BK138 := bb BK138 hb; replace HB := bh HB hb; (try clear hb); (try clear hb2); (try clear hk); (try clear hi); (try clear ho0)) | ((with_reducible refine gate_dst (N := 65) rfl ?_); (try (refine gate_guard (by rfl) ?_; dsimp only)); refine Kd.R_lit k50 _ 50 ?hg (N := 65) ?hd (xs := ([(⟨0, 3⟩ : S50), (⟨3, 4⟩ : S50)] : List (S50))) (inner := [.int .i64 0, .int .i64 3, .int .i64 3, .int .i64 4]) (ok := fun _ => True) (okp := fun _ => True) ?hr ?hp (fun _ hk => hk) trivial (Below.refl _ _) (Nat.le_refl _) (by simp) ?_; (case hd => rfl); (case hg => rfl); (case hr => first | (go_simp; done) | (go_simp; rfl)); (case hp => exact (Reps.c2 (show Kd.M k50 _ _ _ (⟨0, 3⟩ : S50) [.int .i64 0, .int .i64 3] from (k50_mkM _ _ _ (⟨0, 3⟩ : S50) )) (Reps.c2 (show Kd.M k50 _ _ _ (⟨3, 4⟩ : S50) [.int .i64 3, .int .i64 4] from (k50_mkM _ _ _ (⟨3, 4⟩ : S50) )) (Reps.none _ _)))); intro v167 w58 ho59 hb hg_ hnew_; clear hg_ hnew_; (first | rw [← Ny166.out] at ho59 | (simp only [Int.reduceToNat] at ho59; rw [← Ny166.out] at ho59)); replace HO141 := Aside0.mk (Kd.R_below (rx HO141) hb); replace HO144 := Aside0.mk (Kd.R_below (rx HO144) hb); replace HO153 := Aside0.mk (Kd.R_below (rx HO153) hb); replace HO159 := Aside0.mk (Kd.R_below (rx HO159) hb); have HO168 := Aside0.mk (Kd.R_lower (Kd.R_new' ho59 (Kd.R_lt (rx HO165))) (below_size (bw HB))); replace HO165 := Aside0.mk (Kd.R_elder' (rx HO165) (Kd.R_base ho59) hb); replace BK135 := bb BK135 hb; replace BK136 := bb BK136 hb; replace BK137 := bb BK137 hb; replace BK138 := bb BK138 hb; replace HB := bh HB hb; clear hb ho59; obtain ⟨Ao60, co60, eo60⟩ := Kd.R_slice HO165.out; subst eo60; obtain ⟨Ao61, co61, eo61⟩ := Kd.R_slice HO168.out; subst eo61) | ((with_reducible refine gate_callee (f := 28) rfl ?_); refine goesB (some 66) rfl rfl Try.func28 #[.slice Ao60 t163.length co60, .slice Ao61 y166.length co61] rfl ?_; (with_reducible refine (stickfulref21_Same.calls k _ _ t163 _ _ y166 true _ ?side1 ?side2 ?side3 ?side4 A6.out).mono ?_); (case side1 => repeat (first | exact (Kd.R_reads' HO165.out).2.2 | (with_reducible refine Kd.C_alloc ?_ _) | (with_reducible refine Kd.C_drewN ?_ _) | (with_reducible refine Kd.C_drew ?_))); (case side2 => exact (Kd.R_reads' HO165.out).2.1); (case side3 => repeat (first | exact (Kd.R_reads' HO168.out).2.2 | (with_reducible refine Kd.C_alloc ?_ _) | (with_reducible refine Kd.C_drewN ?_ _) | (with_reducible refine Kd.C_drew ?_))); (case side4 => exact (Kd.R_reads' HO168.out).2.1); rintro e w' ⟨rfl, ⟨nd, rfl⟩⟩; refine ⟨_, rfl, ?_⟩) | (go_at_call 31; (with_reducible refine (intrinsic_Pieces.calls _ _ y142 t170 _ ?side1 ?side2 A8.out).mono ?_); (case side1 => repeat (first | exact (Kd.R_reads' HO144.out).2.2 | (with_reducible refine Kd.C_alloc ?_ _) | (with_reducible refine Kd.C_drewN ?_ _) | (with_reducible refine Kd.C_drew ?_))); (case side2 => exact (Kd.R_reads' HO144.out).2.1); rintro e w62 ⟨v171, rfl, ho0, hb⟩; replace HO141 := Aside0.mk (Kd.R_below (rx HO141) hb); replace HO144 := Aside0.mk (Kd.R_below (rx HO144) hb); replace HO153 := Aside0.mk (Kd.R_below (rx HO153) hb); replace HO159 := Aside0.mk (Kd.R_below (rx HO159) hb); have HO172 := Aside0.mk (Kd.R_lower (Kd.R_new' (Kd.R_new' ho0 (Kd.R_lt (rx HO165))) (Kd.R_lt (rx HO168))) (below_size (bw HB))); replace HO165 := Aside0.mk (Kd.R_elder' (rx HO165) (Kd.R_base ho0) hb); replace HO168 := Aside0.mk (Kd.R_elder' (rx HO168) (Kd.R_base ho0) hb); replace BK135 := bb BK135 hb; replace BK136 := bb BK136 hb; replace BK137 := bb BK137 hb; replace BK138 := bb BK138 hb; replace HB := bh HB hb; (try clear hb); (try clear hb2); (try clear hk); (try clear hi); (try clear ho0)) | ((with_reducible refine gate_dst (N := 72) rfl ?_); (try (refine gate_guard (by rfl) ?_; dsimp only)); refine Kd.R_lit k50 _ 50 ?hg (N := 72) ?hd (xs := ([(⟨0, 3⟩ : S50), (⟨3, 5⟩ : S50)] : List (S50))) (inner := [.int .i64 0, .int .i64 3, .int .i64 3, .int .i64 5]) (ok := fun _ => True) (okp := fun _ => True) ?hr ?hp (fun _ hk => hk) trivial (Below.refl _ _) (Nat.le_refl _) (by simp) ?_; (case hd => rfl); (case hg => rfl); (case hr => first | (go_simp; done) | (go_simp; rfl)); (case hp => exact (Reps.c2 (show Kd.M k50 _ _ _ (⟨0, 3⟩ : S50) [.int .i64 0, .int .i64 3] from (k50_mkM _ _ _ (⟨0, 3⟩ : S50) )) (Reps.c2 (show Kd.M k50 _ _ _ (⟨3, 5⟩ : S50) [.int .i64 3, .int .i64 5] from (k50_mkM _ _ _ (⟨3, 5⟩ : S50) )) (Reps.none _ _)))); intro v174 w63 ho64 hb hg_ hnew_; clear hg_ hnew_; (first | rw [← Ny173.out] at ho64 | (simp only [Int.reduceToNat] at ho64; rw [← Ny173.out] at ho64)); replace HO141 := Aside0.mk (Kd.R_below (rx HO141) hb); replace HO144 := Aside0.mk (Kd.R_below (rx HO144) hb); replace HO153 := Aside0.mk (Kd.R_below (rx HO153) hb); replace HO159 := Aside0.mk (Kd.R_below (rx HO159) hb); have HO175 := Aside0.mk (Kd.R_lower (Kd.R_new' (Kd.R_new' (Kd.R_new' ho64 (Kd.R_lt (rx HO165))) (Kd.R_lt (rx HO168))) (Kd.R_lt (rx HO172))) (below_size (bw HB))); replace HO165 := Aside0.mk (Kd.R_elder' (rx HO165) (Kd.R_base ho64) hb); replace HO168 := Aside0.mk (Kd.R_elder' (rx HO168) (Kd.R_base ho64) hb); replace HO172 := Aside0.mk (Kd.R_elder' (rx HO172) (Kd.R_base ho64) hb); replace BK135 := bb BK135 hb; replace BK136 := bb BK136 hb; replace BK137 := bb BK137 hb; replace BK138 := bb BK138 hb; replace HB := bh HB hb; clear hb ho64; obtain ⟨Ao65, co65, eo65⟩ := Kd.R_slice HO172.out; subst eo65; obtain ⟨Ao66, co66, eo66⟩ := Kd.R_slice HO175.out; subst eo66) | (go_at_call 28; (with_reducible refine (stickfulref21_Same.calls k _ _ t170 _ _ y173 true _ ?side1 ?side2 ?side3 ?side4 A9.out).mono ?_); (case side1 => repeat (first | exact (Kd.R_reads' HO172.out).2.2 | (with_reducible refine Kd.C_alloc ?_ _) | (with_reducible refine Kd.C_drewN ?_ _) | (with_reducible refine Kd.C_drew ?_))); (case side2 => exact (Kd.R_reads' HO172.out).2.1); (case side3 => repeat (first | exact (Kd.R_reads' HO175.out).2.2 | (with_reducible refine Kd.C_alloc ?_ _) | (with_reducible refine Kd.C_drewN ?_ _) | (with_reducible refine Kd.C_drew ?_))); (case side4 => exact (Kd.R_reads' HO175.out).2.1); rintro e w' ⟨rfl, ⟨nd, rfl⟩⟩))
                        go_ret
                        exact ⟨by first | rfl | (simp [errW_none, errW_some] <;> rfl) | (simp [*, errW_none, errW_some] <;> rfl), by repeat (first | (with_reducible first | exact HB.out | apply below_alloc | apply pw_below_drewN | apply below_drew1 | refine below_set ?_ GE135.out | refine below_set ?_ GE136.out | refine below_set ?_ GE137.out | refine below_set ?_ GE138.out) | exact HB.out)⟩
                      · rw [if_neg c19] at H
                        have c19b0 : (t156 == 0) = false := beq_eq_false_iff_ne.mpr c19
                        have c19b1 : (t156 != 0) = true := bne_iff_ne.mpr c19
                        exact absurd ((Option.some.inj H).trans HR_.out) (by decide)
                    · rw [if_neg c18] at H
                      have c18b0 : (t155 == 0) = false := beq_eq_false_iff_ne.mpr c18
                      have c18b1 : (t155 != 0) = true := bne_iff_ne.mpr c18
                      exact absurd ((Option.some.inj H).trans HR_.out) (by decide)
                  · rw [if_neg c17] at H
                    have c17b0 : (t154 == 0) = false := beq_eq_false_iff_ne.mpr c17
                    have c17b1 : (t154 != 0) = true := bne_iff_ne.mpr c17
                    exact absurd ((Option.some.inj H).trans HR_.out) (by decide)
                · rw [if_neg c16] at H
                  have c16b0 : (t150 == 0) = false := beq_eq_false_iff_ne.mpr c16
                  have c16b1 : (t150 != 0) = true := bne_iff_ne.mpr c16
                  exact absurd ((Option.some.inj H).trans HR_.out) (by decide)
              · rw [if_neg c15] at H
                have c15b0 : (t149 == 10) = false := beq_eq_false_iff_ne.mpr c15
                have c15b1 : (t149 != 10) = true := bne_iff_ne.mpr c15
                exact absurd ((Option.some.inj H).trans HR_.out) (by decide)
            · rw [if_neg c14] at H
              have c14b0 : (t148 == 10) = false := beq_eq_false_iff_ne.mpr c14
              have c14b1 : (t148 != 10) = true := bne_iff_ne.mpr c14
              exact absurd ((Option.some.inj H).trans HR_.out) (by decide)
          · rw [if_neg c13] at H
            have c13b0 : (t147 == 0) = false := beq_eq_false_iff_ne.mpr c13
            have c13b1 : (t147 != 0) = true := bne_iff_ne.mpr c13
            exact absurd ((Option.some.inj H).trans HR_.out) (by decide)
        · rw [if_neg c12] at H
          have c12b0 : (t146 == 20) = false := beq_eq_false_iff_ne.mpr c12
          have c12b1 : (t146 != 20) = true := bne_iff_ne.mpr c12
          exact absurd ((Option.some.inj H).trans HR_.out) (by decide)
      · rw [if_neg c11] at H
        have c11b0 : (t145 == 10) = false := beq_eq_false_iff_ne.mpr c11
        have c11b1 : (t145 != 10) = true := bne_iff_ne.mpr c11
        exact absurd ((Option.some.inj H).trans HR_.out) (by decide)
    · replace c10 := Bool.eq_false_iff.mpr c10
      subst c10
      have H1 : (some false) = some r := by rw [if_neg (show ¬ (false = true) by decide)] at H; exact H
      clear H
      have H := H1
      clear H1
      exact absurd ((Option.some.inj H).trans HR_.out) (by decide)
  · replace c7 := Bool.eq_false_iff.mpr c7
    subst c7
    have H1 : (some false) = some r := by rw [if_neg (show ¬ (false = true) by decide)] at H; exact H
    clear H
    have H := H1
    clear H1
    exact absurd ((Option.some.inj H).trans HR_.out) (by decide)

theorem stickfullaw21_head.true_ (k : Nat) (r : Bool) (h : stickfullaw21_head.f k = some r) : r = true := by
 have h1 : stickfullaw21_head.f 100 = some true := by kernel_rfl
 have a := at_rounds stickfullaw21_head.mono (Nat.le_max_left k 100) h
 have b := at_rounds stickfullaw21_head.mono (Nat.le_max_right k 100) h1
 rw [a] at b
 exact Option.some.inj b
theorem stickfullaw21_head.calls (k : Nat)  (r : Bool) (w : World) (h : stickfullaw21_head.f k  = some r) :
    Calls Try.prog 24 #[] w fun e w' => e = .returned (.bool r) ∧ Below w.heap.size w w' := stickfullaw21_head.calls_t k r w h (stickfullaw21_head.true_ k r h)

/-! ### stickfullaw21_great: function 26 -/
def stickfullaw21_great.f (l0 : List (S35)) : Option (Bool) := some (decide ((l0.length : Int) > 120))
set_option maxHeartbeats 8000000 in
set_option maxRecDepth 100000 in
theorem stickfullaw21_great.calls (A0 : Option Addr) (c0 : Nat) (l0 : List (S35)) (r : Bool) (w : World) (hr0 : Kd.C k35 w A0 l0.length l0) (hc0 : l0.length ≤ c0) (h : stickfullaw21_great.f l0 = some r) :
    Calls Try.prog 26 #[.slice A0 l0.length c0] w fun e w' => e = .returned (.bool r) ∧ Drawn0 w w' := by
  have HR0 := Aside0.mk hr0
  have HC0 := Aside0.mk hc0
  clear hr0 hc0
  have H : (some (decide ((l0.length : Int) > 120))) = some r := h
  clear h
  obtain rfl := Option.some.inj H
  go_enter Try.func26, Try.ntmps26
  go_wp2
  go_ret
  exact ⟨by first | rfl | (simp; done) | (simp [*]; done), by repeat (first | exact Drawn0.refl _ | apply Drawn0.step)⟩

/-! ### stickfulref21_Cuts: function 30 -/
mutual
def stickfulref21_Cuts.l0 : Nat → List (S35) → Bool → List (S50) → Int → Bool → Int → Option ((List (S50)))
  | 0, _, _, _, _, _, _ => none
  | k + 1, x0, x1, x5, x6, x7, x8 => if x8 < (x0.length : Int) then (if x7 = true then (stickfulref21_Cuts.j1 k x0 x1 x5 x6 x8 false) else (if x1 = true then (if 0 ≤ x8 then (if (rd_T35 x0 x8).f4 = true then (stickfulref21_Cuts.j1 k x0 x1 x5 x6 x8 true) else (stickfulref21_Cuts.j1 k x0 x1 x5 x6 x8 ((rd_T35 x0 x8).f5))) else (none)) else (stickfulref21_Cuts.j1 k x0 x1 x5 x6 x8 false))) else (if x6 < (x0.length : Int) then (if x5.length < 8796093022208 then (some (x5 ++ [(⟨x6, (x0.length : Int)⟩ : S50)])) else (none)) else (some x5))
def stickfulref21_Cuts.j1 : Nat → List (S35) → Bool → List (S50) → Int → Int → Bool → Option ((List (S50)))
  | 0, _, _, _, _, _, _ => none
  | k + 1, x0, x1, x5, x6, x8, x33 => if x33 = true then (if x5.length < 8796093022208 then ((some (x5 ++ [(⟨x6, x8⟩ : S50)] : List (S50))).bind fun y182 => (if 0 ≤ x8 then (if x8 < (x0.length : Int) then (if ((rd_T35 x0 x8).f0) = 5 then (if y182.length < 8796093022208 then (stickfulref21_Cuts.l0 k x0 x1 (y182 ++ [(⟨x8, wrap64 (x8 + 1)⟩ : S50)]) (wrap64 (x8 + 1)) true (wrap64 (x8 + 1))) else (none)) else (stickfulref21_Cuts.l0 k x0 x1 y182 x8 false (wrap64 (x8 + 1)))) else (none)) else (none))) else (none)) else (if 0 ≤ x8 then (if x8 < (x0.length : Int) then (if ((rd_T35 x0 x8).f0) = 5 then (if x5.length < 8796093022208 then (stickfulref21_Cuts.l0 k x0 x1 (x5 ++ [(⟨x6, wrap64 (x8 + 1)⟩ : S50)]) (wrap64 (x8 + 1)) true (wrap64 (x8 + 1))) else (none)) else (stickfulref21_Cuts.l0 k x0 x1 x5 x6 false (wrap64 (x8 + 1)))) else (none)) else (none))
end
def stickfulref21_Cuts.f (k : Nat) (l0 : List (S35)) (a1 : Bool) : Option ((List (S50))) := stickfulref21_Cuts.l0 k l0 a1 ([] : List (S50)) 0 true 0
theorem stickfulref21_Cuts.mono_l : ∀ k, (∀ y0 y1 y2 y3 y4 y5, LeO (stickfulref21_Cuts.l0 k y0 y1 y2 y3 y4 y5) (stickfulref21_Cuts.l0 (k + 1) y0 y1 y2 y3 y4 y5)) ∧ (∀ y0 y1 y2 y3 y4 y5, LeO (stickfulref21_Cuts.j1 k y0 y1 y2 y3 y4 y5) (stickfulref21_Cuts.j1 (k + 1) y0 y1 y2 y3 y4 y5))
  | 0 => ⟨fun _ _ _ _ _ _ r h => by simp [stickfulref21_Cuts.l0] at h, fun _ _ _ _ _ _ r h => by simp [stickfulref21_Cuts.j1] at h⟩
  | k + 1 => by
    obtain ⟨ih0, ih1⟩ := stickfulref21_Cuts.mono_l k
    refine ⟨?_, ?_⟩
    · intro y0 y1 y2 y3 y4 y5
      unfold stickfulref21_Cuts.l0
      repeat' first
      | (with_reducible exact ih0 _ _ _ _ _ _)
      | (with_reducible exact ih1 _ _ _ _ _ _)
      | (with_reducible exact LeO.refl _)
      | (with_reducible exact LeO.none _)
      | (with_reducible refine LeO.ite ?_ ?_)
      | (with_reducible refine LeO.bind ?_ (fun _ => ?_))
      | exact ih0 _ _ _ _ _ _
      | exact ih1 _ _ _ _ _ _
      | exact LeO.none _
      | refine LeO.ite ?_ ?_
      | refine LeO.bind ?_ (fun _ => ?_)
    · intro y0 y1 y2 y3 y4 y5
      unfold stickfulref21_Cuts.j1
      repeat' first
      | (with_reducible exact ih0 _ _ _ _ _ _)
      | (with_reducible exact ih1 _ _ _ _ _ _)
      | (with_reducible exact LeO.refl _)
      | (with_reducible exact LeO.none _)
      | (with_reducible refine LeO.ite ?_ ?_)
      | (with_reducible refine LeO.bind ?_ (fun _ => ?_))
      | exact ih0 _ _ _ _ _ _
      | exact ih1 _ _ _ _ _ _
      | exact LeO.none _
      | refine LeO.ite ?_ ?_
      | refine LeO.bind ?_ (fun _ => ?_)
theorem stickfulref21_Cuts.mono : ∀ a0 a1 k, LeO (stickfulref21_Cuts.f k a0 a1) (stickfulref21_Cuts.f (k + 1) a0 a1) := by
  intro a0 a1 k
  obtain ⟨ih0, ih1⟩ := stickfulref21_Cuts.mono_l k
  unfold stickfulref21_Cuts.f
  repeat' first
      | (with_reducible exact ih0 _ _ _ _ _ _)
      | (with_reducible exact ih1 _ _ _ _ _ _)
      | (with_reducible exact LeO.refl _)
      | (with_reducible exact LeO.none _)
      | (with_reducible refine LeO.ite ?_ ?_)
      | (with_reducible refine LeO.bind ?_ (fun _ => ?_))
      | exact ih0 _ _ _ _ _ _
      | exact ih1 _ _ _ _ _ _
      | exact LeO.none _
      | refine LeO.ite ?_ ?_
      | refine LeO.bind ?_ (fun _ => ?_)
set_option maxHeartbeats 8000000 in
set_option maxRecDepth 100000 in
theorem stickfulref21_Cuts.calls (k : Nat) (A0 : Option Addr) (c0 : Nat) (l0 : List (S35)) (a1 : Bool) (r : List (S50)) (w : World) (hr0 : Kd.C k35 w A0 l0.length l0) (hc0 : l0.length ≤ c0) (h : stickfulref21_Cuts.f k l0 a1 = some r) :
    Calls Try.prog 30 #[.slice A0 l0.length c0, .bool a1] w fun e w' => ∃ v0_ : Value, e = .returned (v0_) ∧ Kd.R k50 50 w' w.heap.size (fun _ => True) v0_ r ∧ Below w.heap.size w w' := by
  have hu50 := Try.underlying50
  have HR0 := Aside0.mk hr0
  have HC0 := Aside0.mk hc0
  clear hr0 hc0
  have HB := Aside0.mk (Below.refl w.heap.size w)
  have H : (stickfulref21_Cuts.l0 k l0 a1 ([] : List (S50)) 0 true 0) = some r := h
  clear h
  have H' := Aside0.mk H
  clear H
  go_enter Try.func30, Try.ntmps30
  go_wp2
  go_loopg [5, 6, 7, 8] k (fun kq v5 v6 v7 v8 w' => ∃ (x5_1 : List (S50)) (x6_1 : Int) (x7_1 : Bool) (x8_1 : Int), v6 = .int .i64 x6_1 ∧ v7 = .bool x7_1 ∧ v8 = .int .i64 x8_1 ∧ Aside0 (stickfulref21_Cuts.l0 kq l0 a1 x5_1 x6_1 x7_1 x8_1 = some r) ∧ Aside0 (kq ≤ k) ∧ Aside0 (Kd.R k50 50 w' w.heap.size (fun _ => True) v5 x5_1) ∧ Aside0 (Below w.heap.size w w'))
  case atStart => exact ⟨(([] : List (S50))), (0), (true), (0), (by first | rfl | (simp; done) | (simp [*]; done)), (by first | rfl | (simp; done) | (simp [*]; done)), (by first | rfl | (simp; done) | (simp [*]; done)), H', ⟨Nat.le_refl _⟩, ⟨by first | exact Kd.R_nil _ _ _ _ _ | exact Kd.N_nil _ _ _ _ _ | exact Kd.V_nil _ _ _ _ _ | exact Kd.Q_nil _ _ _ _ _ | exact Kd.S_nil _ _ _ _ _⟩, ⟨by repeat (first | (with_reducible first | exact HB.out | apply below_alloc | apply pw_below_drewN | apply below_drew1) | exact HB.out)⟩⟩
  case round =>
    clear H'
    try clear p2
    obtain ⟨x5_1, x6_1, x7_1, x8_1, rfl, rfl, rfl, HA, HK1, HO_5, HB⟩ := hrel
    cases gk with
    | zero => exact absurd HA.out (by simp [stickfulref21_Cuts.l0])
    | succ k1 =>
      have H := HA.out
      clear HA
      simp only [stickfulref21_Cuts.l0] at H
      by_cases c3 : x8_1 < (l0.length : Int)
      · rw [if_pos c3] at H
        have c3b0 : decide (x8_1 < (l0.length : Int)) = true := decide_eq_true c3
        clear c3
        have HC4 := Aside0.mk H
        clear H
        go_upto_region 6 with (fail)
        go_cut [33] (fun v33 wc => ∃ (kq : Nat) (x33_3 : Bool), v33 = .bool x33_3 ∧ Aside0 (stickfulref21_Cuts.j1 kq l0 a1 x5_1 x6_1 x8_1 x33_3 = some r) ∧ Aside0 (kq ≤ k1) ∧ Aside0 (Kd.R k50 50 wc w.heap.size (fun _ => True) u5 x5_1) ∧ Aside0 (Below w.heap.size w wc))
        case first =>
          have H := HC4.out
          clear HC4
          by_cases c5 : x7_1 = true
          · subst c5
            have H1 : (stickfulref21_Cuts.j1 k1 l0 a1 x5_1 x6_1 x8_1 false) = some r := by rw [if_pos rfl] at H; exact H
            clear H
            have H := H1
            clear H1
            have H' := Aside0.mk H
            clear H
            go_wp2
            go_meet
            case rel => exact ⟨_, (false), (by first | rfl | (simp; done) | (simp [*]; done)), H', ⟨by have := HK1.out; first | omega | exact Nat.le_refl _⟩, ⟨by (with_reducible repeat (first | apply Kd.R_alloc | apply Kd.R_drewN | apply Kd.R_drew)); exact HO_5.out⟩, ⟨by repeat (first | (with_reducible first | exact HB.out | apply below_alloc | apply pw_below_drewN | apply below_drew1) | exact HB.out)⟩⟩
          · replace c5 := Bool.eq_false_iff.mpr c5
            subst c5
            have H1 : (if a1 = true then (if 0 ≤ x8_1 then (if (rd_T35 l0 x8_1).f4 = true then (stickfulref21_Cuts.j1 k1 l0 a1 x5_1 x6_1 x8_1 true) else (stickfulref21_Cuts.j1 k1 l0 a1 x5_1 x6_1 x8_1 ((rd_T35 l0 x8_1).f5))) else (none)) else (stickfulref21_Cuts.j1 k1 l0 a1 x5_1 x6_1 x8_1 false)) = some r := by rw [if_neg (show ¬ (false = true) by decide)] at H; exact H
            clear H
            have H := H1
            clear H1
            by_cases c6 : a1 = true
            · subst c6
              have H1 : (if 0 ≤ x8_1 then (if (rd_T35 l0 x8_1).f4 = true then (stickfulref21_Cuts.j1 k1 l0 true x5_1 x6_1 x8_1 true) else (stickfulref21_Cuts.j1 k1 l0 true x5_1 x6_1 x8_1 ((rd_T35 l0 x8_1).f5))) else (none)) = some r := by rw [if_pos rfl] at H; exact H
              clear H
              have H := H1
              clear H1
              by_cases c7 : 0 ≤ x8_1
              · rw [if_pos c7] at H
                have c7b0 : decide (0 ≤ x8_1) = true := decide_eq_true c7
                clear c7
                (first | rw [c7b0] | (simp only [i64_w, i32_w]; rw [c7b0]) | skip)
                obtain ⟨bq8, hbq8⟩ : ∃ b_ : Bool, b_ = ((rd_T35 l0 x8_1).f4) := ⟨_, rfl⟩
                replace H : (if bq8 = true then (stickfulref21_Cuts.j1 k1 l0 true x5_1 x6_1 x8_1 true) else (stickfulref21_Cuts.j1 k1 l0 true x5_1 x6_1 x8_1 ((rd_T35 l0 x8_1).f5))) = some r := by rw [← hbq8] at H; exact H
                have Nbq8 := Aside0.mk hbq8
                clear hbq8
                by_cases c9 : bq8 = true
                · subst c9
                  have H1 : (stickfulref21_Cuts.j1 k1 l0 true x5_1 x6_1 x8_1 true) = some r := by rw [if_pos rfl] at H; exact H
                  clear H
                  have H := H1
                  clear H1
                  have H' := Aside0.mk H
                  clear H
                  have p180 : 0 ≤ (x8_1 : Int) := of_decide_eq_true (by first | (with_reducible assumption) | assumption)
                  have q180 : x8_1 < (l0.length : Int) := of_decide_eq_true (by first | (with_reducible assumption) | assumption)
                  obtain ⟨ad180, e180, hx180_0, hx180_1, hx180_2, hx180_3, hx180_4, hx180_5⟩ := at_T35 HR0.out x8_1 p180 q180
                  (try rw [← Nbq8.out] at hx180_4)
                  (try rw [← Nbq8.out] at hx180_5)
                  cases e180
                  replace hx180_0 := (HB.out.cell (World.block_lt_of_cell? w _ hx180_0)).trans hx180_0
                  replace hx180_1 := (HB.out.cell (World.block_lt_of_cell? w _ hx180_1)).trans hx180_1
                  replace hx180_2 := (HB.out.cell (World.block_lt_of_cell? w _ hx180_2)).trans hx180_2
                  replace hx180_3 := (HB.out.cell (World.block_lt_of_cell? w _ hx180_3)).trans hx180_3
                  replace hx180_4 := (HB.out.cell (World.block_lt_of_cell? w _ hx180_4)).trans hx180_4
                  replace hx180_5 := (HB.out.cell (World.block_lt_of_cell? w _ hx180_5)).trans hx180_5
                  replace p180 := eq_true p180
                  replace q180 := eq_true q180
                  go_wp2
                  go_meet
                  case rel => exact ⟨_, (true), (by first | rfl | (simp; done) | (simp [*]; done)), H', ⟨by have := HK1.out; first | omega | exact Nat.le_refl _⟩, ⟨by (with_reducible repeat (first | apply Kd.R_alloc | apply Kd.R_drewN | apply Kd.R_drew)); exact HO_5.out⟩, ⟨by repeat (first | (with_reducible first | exact HB.out | apply below_alloc | apply pw_below_drewN | apply below_drew1) | exact HB.out)⟩⟩
                · replace c9 := Bool.eq_false_iff.mpr c9
                  subst c9
                  have H1 : (stickfulref21_Cuts.j1 k1 l0 true x5_1 x6_1 x8_1 ((rd_T35 l0 x8_1).f5)) = some r := by rw [if_neg (show ¬ (false = true) by decide)] at H; exact H
                  clear H
                  have H := H1
                  clear H1
                  have H' := Aside0.mk H
                  clear H
                  have p180 : 0 ≤ (x8_1 : Int) := of_decide_eq_true (by first | (with_reducible assumption) | assumption)
                  have q180 : x8_1 < (l0.length : Int) := of_decide_eq_true (by first | (with_reducible assumption) | assumption)
                  obtain ⟨ad180, e180, hx180_0, hx180_1, hx180_2, hx180_3, hx180_4, hx180_5⟩ := at_T35 HR0.out x8_1 p180 q180
                  (try rw [← Nbq8.out] at hx180_4)
                  (try rw [← Nbq8.out] at hx180_5)
                  cases e180
                  replace hx180_0 := (HB.out.cell (World.block_lt_of_cell? w _ hx180_0)).trans hx180_0
                  replace hx180_1 := (HB.out.cell (World.block_lt_of_cell? w _ hx180_1)).trans hx180_1
                  replace hx180_2 := (HB.out.cell (World.block_lt_of_cell? w _ hx180_2)).trans hx180_2
                  replace hx180_3 := (HB.out.cell (World.block_lt_of_cell? w _ hx180_3)).trans hx180_3
                  replace hx180_4 := (HB.out.cell (World.block_lt_of_cell? w _ hx180_4)).trans hx180_4
                  replace hx180_5 := (HB.out.cell (World.block_lt_of_cell? w _ hx180_5)).trans hx180_5
                  replace p180 := eq_true p180
                  replace q180 := eq_true q180
                  have p181 : 0 ≤ (x8_1 : Int) := of_decide_eq_true (by first | (with_reducible assumption) | assumption)
                  have q181 : x8_1 < (l0.length : Int) := of_decide_eq_true (by first | (with_reducible assumption) | assumption)
                  obtain ⟨ad181, e181, hx181_0, hx181_1, hx181_2, hx181_3, hx181_4, hx181_5⟩ := at_T35 HR0.out x8_1 p181 q181
                  (try rw [← Nbq8.out] at hx181_4)
                  (try rw [← Nbq8.out] at hx181_5)
                  obtain rfl : ad180 = ad181 := (by injection e181)
                  replace hx181_0 := (HB.out.cell (World.block_lt_of_cell? w _ hx181_0)).trans hx181_0
                  replace hx181_1 := (HB.out.cell (World.block_lt_of_cell? w _ hx181_1)).trans hx181_1
                  replace hx181_2 := (HB.out.cell (World.block_lt_of_cell? w _ hx181_2)).trans hx181_2
                  replace hx181_3 := (HB.out.cell (World.block_lt_of_cell? w _ hx181_3)).trans hx181_3
                  replace hx181_4 := (HB.out.cell (World.block_lt_of_cell? w _ hx181_4)).trans hx181_4
                  replace hx181_5 := (HB.out.cell (World.block_lt_of_cell? w _ hx181_5)).trans hx181_5
                  replace p181 := eq_true p181
                  replace q181 := eq_true q181
                  go_wp2
                  go_meet
                  case rel => exact ⟨_, ((rd_T35 l0 x8_1).f5), (by first | rfl | (simp; done) | (simp [*]; done)), H', ⟨by have := HK1.out; first | omega | exact Nat.le_refl _⟩, ⟨by (with_reducible repeat (first | apply Kd.R_alloc | apply Kd.R_drewN | apply Kd.R_drew)); exact HO_5.out⟩, ⟨by repeat (first | (with_reducible first | exact HB.out | apply below_alloc | apply pw_below_drewN | apply below_drew1) | exact HB.out)⟩⟩
              · rw [if_neg c7] at H
                exact absurd H (by simp)
            · replace c6 := Bool.eq_false_iff.mpr c6
              subst c6
              have H1 : (stickfulref21_Cuts.j1 k1 l0 false x5_1 x6_1 x8_1 false) = some r := by rw [if_neg (show ¬ (false = true) by decide)] at H; exact H
              clear H
              have H := H1
              clear H1
              have H' := Aside0.mk H
              clear H
              go_wp2
              go_meet
              case rel => exact ⟨_, (false), (by first | rfl | (simp; done) | (simp [*]; done)), H', ⟨by have := HK1.out; first | omega | exact Nat.le_refl _⟩, ⟨by (with_reducible repeat (first | apply Kd.R_alloc | apply Kd.R_drewN | apply Kd.R_drew)); exact HO_5.out⟩, ⟨by repeat (first | (with_reducible first | exact HB.out | apply below_alloc | apply pw_below_drewN | apply below_drew1) | exact HB.out)⟩⟩
        case rest =>
          clear HC4
          try clear p1
          try clear q1
          try clear hx1
          try clear p2
          try clear c3
          try clear c3b0
          try clear c5
          try clear c6
          try clear c7
          try clear c7b0
          try clear q8
          try clear c9
          try clear hx180_0
          try clear hx180_1
          try clear hx180_2
          try clear hx180_3
          try clear hx180_4
          try clear hx180_5
          try clear hx181_0
          try clear hx181_1
          try clear hx181_2
          try clear hx181_3
          try clear hx181_4
          try clear hx181_5
          try clear p180
          try clear p181
          try clear p2
          try clear q180
          try clear q181
          obtain ⟨kq, x33_3, rfl, HA, HJ3, HO_5, HB⟩ := hcut
          cases kq with
          | zero => exact absurd HA.out (by simp [stickfulref21_Cuts.j1])
          | succ kj3 =>
            have H := HA.out
            clear HA
            simp only [stickfulref21_Cuts.j1] at H
            by_cases c10 : x33_3 = true
            · subst c10
              have H1 : (if x5_1.length < 8796093022208 then ((some (x5_1 ++ [(⟨x6_1, x8_1⟩ : S50)] : List (S50))).bind fun y182 => (if 0 ≤ x8_1 then (if x8_1 < (l0.length : Int) then (if ((rd_T35 l0 x8_1).f0) = 5 then (if y182.length < 8796093022208 then (stickfulref21_Cuts.l0 kj3 l0 a1 (y182 ++ [(⟨x8_1, wrap64 (x8_1 + 1)⟩ : S50)]) (wrap64 (x8_1 + 1)) true (wrap64 (x8_1 + 1))) else (none)) else (stickfulref21_Cuts.l0 kj3 l0 a1 y182 x8_1 false (wrap64 (x8_1 + 1)))) else (none)) else (none))) else (none)) = some r := by rw [if_pos rfl] at H; exact H
              clear H
              have H := H1
              clear H1
              by_cases c11 : x5_1.length < 8796093022208
              · rw [if_pos c11] at H
                have LMc11 := Aside0.mk c11
                clear c11
                obtain ⟨y182, hy182⟩ : ∃ y_ : List (S50), y_ = (x5_1 ++ [(⟨x6_1, x8_1⟩ : S50)]) := ⟨_, rfl⟩
                replace H : (if 0 ≤ x8_1 then (if x8_1 < (l0.length : Int) then (if ((rd_T35 l0 x8_1).f0) = 5 then (if y182.length < 8796093022208 then (stickfulref21_Cuts.l0 kj3 l0 a1 (y182 ++ [(⟨x8_1, wrap64 (x8_1 + 1)⟩ : S50)]) (wrap64 (x8_1 + 1)) true (wrap64 (x8_1 + 1))) else (none)) else (stickfulref21_Cuts.l0 kj3 l0 a1 y182 x8_1 false (wrap64 (x8_1 + 1)))) else (none)) else (none)) = some r := by first | (rw [hy182]; with_reducible exact H) | (have H2_ := (Option.bind_some _ _).symm.trans H; rw [hy182]; with_reducible exact H2_) | (have H2_ := (Option.bind_some _ _).symm.trans H; with_reducible exact H2_) | with_reducible exact H | (rw [hy182]; exact H) | exact H
                have Ny182 := Aside0.mk hy182
                clear hy182
                by_cases c12 : 0 ≤ x8_1
                · rw [if_pos c12] at H
                  have c12b0 : decide (0 ≤ x8_1) = true := decide_eq_true c12
                  clear c12
                  by_cases c13 : x8_1 < (l0.length : Int)
                  · rw [if_pos c13] at H
                    have c13b0 : decide (x8_1 < (l0.length : Int)) = true := decide_eq_true c13
                    clear c13
                    by_cases c14 : ((rd_T35 l0 x8_1).f0) = 5
                    · rw [if_pos c14] at H
                      have c14b0 : (((rd_T35 l0 x8_1).f0) == 5) = true := beq_iff_eq.mpr c14
                      have c14b1 : (((rd_T35 l0 x8_1).f0) != 5) = false := bne_eq_false_iff_eq.mpr c14
                      clear c14
                      by_cases c15 : y182.length < 8796093022208
                      · rw [if_pos c15] at H
                        have LMc15 := Aside0.mk c15
                        clear c15
                        obtain ⟨y186, hy186⟩ : ∃ y_ : List (S50), y_ = (y182 ++ [(⟨x8_1, wrap64 (x8_1 + 1)⟩ : S50)]) := ⟨_, rfl⟩
                        replace H : (stickfulref21_Cuts.l0 kj3 l0 a1 y186 (wrap64 (x8_1 + 1)) true (wrap64 (x8_1 + 1))) = some r := by first | (rw [hy186]; with_reducible exact H) | (have H2_ := (Option.bind_some _ _).symm.trans H; rw [hy186]; with_reducible exact H2_) | (have H2_ := (Option.bind_some _ _).symm.trans H; with_reducible exact H2_) | with_reducible exact H | (rw [hy186]; exact H) | exact H
                        have Ny186 := Aside0.mk hy186
                        clear hy186
                        have H' := Aside0.mk H
                        clear H
                        go_wp2_with (first | ((with_reducible refine gate_builtin (b := .append) (xs := #[.tmp 34, .tmp 38]) rfl ?_); at_builtin; refine Kd.R_append k50 (w0 := w) w.heap.size rfl (.tmp 34) (.tmp 38) 47 50 (.agg #[(.int .i64 0), (.int .i64 0)]) 16 rfl Try.underlying47 info50 rfl (by decide) (by omega) u5 x5_1 (⟨x6_1, x8_1⟩ : S50) [.int .i64 x6_1, .int .i64 x8_1] (fun _ => True) (fun _ => False) rfl rfl ?aP (fun _ hk => hk.elim) ?aF ?aO ?aB ?aS ?aL ?_; (case aP => exact k50_mkM _ _ _ (⟨x6_1, x8_1⟩ : S50)); (case aB => exact (bw HB)); (case aF => exact (fun _ _ => trivial)); (case aO => exact (rx HO_5)); (case aS => exact (below_size (bw HB))); (case aL => have := LMc11.out; omega); intro v183 w16 ho hb hg hat; rw [← Ny182.out] at ho; replace HB := Aside0.mk (hb); have HO184 := Aside0.mk (ho); clear HO_5; clear ho hb hg hat; have p185 : 0 ≤ (x8_1 : Int) := of_decide_eq_true (by first | (with_reducible assumption) | assumption); have q185 : x8_1 < (l0.length : Int) := of_decide_eq_true (by first | (with_reducible assumption) | assumption); obtain ⟨ad185, e185, hx185_0, hx185_1, hx185_2, hx185_3, hx185_4, hx185_5⟩ := at_T35 HR0.out x8_1 p185 q185; cases e185; replace hx185_0 := (HB.out.cell (World.block_lt_of_cell? w _ hx185_0)).trans hx185_0; replace hx185_1 := (HB.out.cell (World.block_lt_of_cell? w _ hx185_1)).trans hx185_1; replace hx185_2 := (HB.out.cell (World.block_lt_of_cell? w _ hx185_2)).trans hx185_2; replace hx185_3 := (HB.out.cell (World.block_lt_of_cell? w _ hx185_3)).trans hx185_3; replace hx185_4 := (HB.out.cell (World.block_lt_of_cell? w _ hx185_4)).trans hx185_4; replace hx185_5 := (HB.out.cell (World.block_lt_of_cell? w _ hx185_5)).trans hx185_5; replace p185 := eq_true p185; replace q185 := eq_true q185) | ((with_reducible refine gate_builtin (b := .append) (xs := #[.tmp 47, .tmp 52]) rfl ?_); at_builtin; refine Kd.R_append k50 (w0 := w) w.heap.size rfl (.tmp 47) (.tmp 52) 47 50 (.agg #[(.int .i64 0), (.int .i64 0)]) 16 rfl Try.underlying47 info50 rfl (by decide) (by omega) v183 y182 (⟨x8_1, wrap64 (x8_1 + 1)⟩ : S50) [.int .i64 x8_1, .int .i64 (wrap64 (x8_1 + 1))] (fun _ => True) (fun _ => False) rfl rfl ?aP (fun _ hk => hk.elim) ?aF ?aO ?aB ?aS ?aL ?_; (case aP => exact k50_mkM _ _ _ (⟨x8_1, wrap64 (x8_1 + 1)⟩ : S50)); (case aB => exact (bw HB)); (case aF => exact (fun _ _ => trivial)); (case aO => exact (rx HO184)); (case aS => exact (below_size (bw HB))); (case aL => have := LMc15.out; omega); intro v187 w17 ho hb hg hat; rw [← Ny186.out] at ho; replace HB := Aside0.mk (hb); have HO188 := Aside0.mk (ho); clear HO184; clear ho hb hg hat))
                        go_roundg kj3
                        case measure => have := HK1.out; have := HJ3.out; omega
                        case rel => exact ⟨(y186), (wrap64 (x8_1 + 1)), (true), (wrap64 (x8_1 + 1)), (by first | rfl | (simp; done) | (simp [*]; done)), (by first | rfl | (simp; done) | (simp [*]; done)), (by first | rfl | (simp; done) | (simp [*]; done)), H', ⟨by have := HK1.out; have := HJ3.out; omega⟩, ⟨by (with_reducible repeat (first | apply Kd.R_alloc | apply Kd.R_drewN | apply Kd.R_drew)); exact HO188.out⟩, ⟨by repeat (first | (with_reducible first | exact HB.out | apply below_alloc | apply pw_below_drewN | apply below_drew1) | exact HB.out)⟩⟩
                      · rw [if_neg c15] at H
                        exact absurd H (by simp)
                    · rw [if_neg c14] at H
                      have c14b0 : (((rd_T35 l0 x8_1).f0) == 5) = false := beq_eq_false_iff_ne.mpr c14
                      have c14b1 : (((rd_T35 l0 x8_1).f0) != 5) = true := bne_iff_ne.mpr c14
                      have H' := Aside0.mk H
                      clear H
                      go_wp2_with (first | ((with_reducible refine gate_builtin (b := .append) (xs := #[.tmp 34, .tmp 38]) rfl ?_); at_builtin; refine Kd.R_append k50 (w0 := w) w.heap.size rfl (.tmp 34) (.tmp 38) 47 50 (.agg #[(.int .i64 0), (.int .i64 0)]) 16 rfl Try.underlying47 info50 rfl (by decide) (by omega) u5 x5_1 (⟨x6_1, x8_1⟩ : S50) [.int .i64 x6_1, .int .i64 x8_1] (fun _ => True) (fun _ => False) rfl rfl ?aP (fun _ hk => hk.elim) ?aF ?aO ?aB ?aS ?aL ?_; (case aP => exact k50_mkM _ _ _ (⟨x6_1, x8_1⟩ : S50)); (case aB => exact (bw HB)); (case aF => exact (fun _ _ => trivial)); (case aO => exact (rx HO_5)); (case aS => exact (below_size (bw HB))); (case aL => have := LMc11.out; omega); intro v183 w18 ho hb hg hat; rw [← Ny182.out] at ho; replace HB := Aside0.mk (hb); have HO184 := Aside0.mk (ho); clear HO_5; clear ho hb hg hat; have p185 : 0 ≤ (x8_1 : Int) := of_decide_eq_true (by first | (with_reducible assumption) | assumption); have q185 : x8_1 < (l0.length : Int) := of_decide_eq_true (by first | (with_reducible assumption) | assumption); obtain ⟨ad185, e185, hx185_0, hx185_1, hx185_2, hx185_3, hx185_4, hx185_5⟩ := at_T35 HR0.out x8_1 p185 q185; cases e185; replace hx185_0 := (HB.out.cell (World.block_lt_of_cell? w _ hx185_0)).trans hx185_0; replace hx185_1 := (HB.out.cell (World.block_lt_of_cell? w _ hx185_1)).trans hx185_1; replace hx185_2 := (HB.out.cell (World.block_lt_of_cell? w _ hx185_2)).trans hx185_2; replace hx185_3 := (HB.out.cell (World.block_lt_of_cell? w _ hx185_3)).trans hx185_3; replace hx185_4 := (HB.out.cell (World.block_lt_of_cell? w _ hx185_4)).trans hx185_4; replace hx185_5 := (HB.out.cell (World.block_lt_of_cell? w _ hx185_5)).trans hx185_5; replace p185 := eq_true p185; replace q185 := eq_true q185))
                      go_roundg kj3
                      case measure => have := HK1.out; have := HJ3.out; omega
                      case rel => exact ⟨(y182), (x8_1), (false), (wrap64 (x8_1 + 1)), (by first | rfl | (simp; done) | (simp [*]; done)), (by first | rfl | (simp; done) | (simp [*]; done)), (by first | rfl | (simp; done) | (simp [*]; done)), H', ⟨by have := HK1.out; have := HJ3.out; omega⟩, ⟨by (with_reducible repeat (first | apply Kd.R_alloc | apply Kd.R_drewN | apply Kd.R_drew)); exact HO184.out⟩, ⟨by repeat (first | (with_reducible first | exact HB.out | apply below_alloc | apply pw_below_drewN | apply below_drew1) | exact HB.out)⟩⟩
                  · rw [if_neg c13] at H
                    exact absurd H (by simp)
                · rw [if_neg c12] at H
                  exact absurd H (by simp)
              · rw [if_neg c11] at H
                exact absurd H (by simp)
            · replace c10 := Bool.eq_false_iff.mpr c10
              subst c10
              have H1 : (if 0 ≤ x8_1 then (if x8_1 < (l0.length : Int) then (if ((rd_T35 l0 x8_1).f0) = 5 then (if x5_1.length < 8796093022208 then (stickfulref21_Cuts.l0 kj3 l0 a1 (x5_1 ++ [(⟨x6_1, wrap64 (x8_1 + 1)⟩ : S50)]) (wrap64 (x8_1 + 1)) true (wrap64 (x8_1 + 1))) else (none)) else (stickfulref21_Cuts.l0 kj3 l0 a1 x5_1 x6_1 false (wrap64 (x8_1 + 1)))) else (none)) else (none)) = some r := by rw [if_neg (show ¬ (false = true) by decide)] at H; exact H
              clear H
              have H := H1
              clear H1
              by_cases c19 : 0 ≤ x8_1
              · rw [if_pos c19] at H
                have c19b0 : decide (0 ≤ x8_1) = true := decide_eq_true c19
                clear c19
                by_cases c20 : x8_1 < (l0.length : Int)
                · rw [if_pos c20] at H
                  have c20b0 : decide (x8_1 < (l0.length : Int)) = true := decide_eq_true c20
                  clear c20
                  by_cases c21 : ((rd_T35 l0 x8_1).f0) = 5
                  · rw [if_pos c21] at H
                    have c21b0 : (((rd_T35 l0 x8_1).f0) == 5) = true := beq_iff_eq.mpr c21
                    have c21b1 : (((rd_T35 l0 x8_1).f0) != 5) = false := bne_eq_false_iff_eq.mpr c21
                    clear c21
                    by_cases c22 : x5_1.length < 8796093022208
                    · rw [if_pos c22] at H
                      have LMc22 := Aside0.mk c22
                      clear c22
                      obtain ⟨y190, hy190⟩ : ∃ y_ : List (S50), y_ = (x5_1 ++ [(⟨x6_1, wrap64 (x8_1 + 1)⟩ : S50)]) := ⟨_, rfl⟩
                      replace H : (stickfulref21_Cuts.l0 kj3 l0 a1 y190 (wrap64 (x8_1 + 1)) true (wrap64 (x8_1 + 1))) = some r := by first | (rw [hy190]; with_reducible exact H) | (have H2_ := (Option.bind_some _ _).symm.trans H; rw [hy190]; with_reducible exact H2_) | (have H2_ := (Option.bind_some _ _).symm.trans H; with_reducible exact H2_) | with_reducible exact H | (rw [hy190]; exact H) | exact H
                      have Ny190 := Aside0.mk hy190
                      clear hy190
                      have H' := Aside0.mk H
                      clear H
                      have p189 : 0 ≤ (x8_1 : Int) := of_decide_eq_true (by first | (with_reducible assumption) | assumption)
                      have q189 : x8_1 < (l0.length : Int) := of_decide_eq_true (by first | (with_reducible assumption) | assumption)
                      obtain ⟨ad189, e189, hx189_0, hx189_1, hx189_2, hx189_3, hx189_4, hx189_5⟩ := at_T35 HR0.out x8_1 p189 q189
                      cases e189
                      replace hx189_0 := (HB.out.cell (World.block_lt_of_cell? w _ hx189_0)).trans hx189_0
                      replace hx189_1 := (HB.out.cell (World.block_lt_of_cell? w _ hx189_1)).trans hx189_1
                      replace hx189_2 := (HB.out.cell (World.block_lt_of_cell? w _ hx189_2)).trans hx189_2
                      replace hx189_3 := (HB.out.cell (World.block_lt_of_cell? w _ hx189_3)).trans hx189_3
                      replace hx189_4 := (HB.out.cell (World.block_lt_of_cell? w _ hx189_4)).trans hx189_4
                      replace hx189_5 := (HB.out.cell (World.block_lt_of_cell? w _ hx189_5)).trans hx189_5
                      replace p189 := eq_true p189
                      replace q189 := eq_true q189
                      go_wp2_with (first | ((with_reducible refine gate_builtin (b := .append) (xs := #[.tmp 47, .tmp 52]) rfl ?_); at_builtin; refine Kd.R_append k50 (w0 := w) w.heap.size rfl (.tmp 47) (.tmp 52) 47 50 (.agg #[(.int .i64 0), (.int .i64 0)]) 16 rfl Try.underlying47 info50 rfl (by decide) (by omega) u5 x5_1 (⟨x6_1, wrap64 (x8_1 + 1)⟩ : S50) [.int .i64 x6_1, .int .i64 (wrap64 (x8_1 + 1))] (fun _ => True) (fun _ => False) rfl rfl ?aP (fun _ hk => hk.elim) ?aF ?aO ?aB ?aS ?aL ?_; (case aP => exact k50_mkM _ _ _ (⟨x6_1, wrap64 (x8_1 + 1)⟩ : S50)); (case aB => exact (bw HB)); (case aF => exact (fun _ _ => trivial)); (case aO => exact (rx HO_5)); (case aS => exact (below_size (bw HB))); (case aL => have := LMc22.out; omega); intro v191 w23 ho hb hg hat; rw [← Ny190.out] at ho; replace HB := Aside0.mk (hb); have HO192 := Aside0.mk (ho); clear HO_5; clear ho hb hg hat))
                      go_roundg kj3
                      case measure => have := HK1.out; have := HJ3.out; omega
                      case rel => exact ⟨(y190), (wrap64 (x8_1 + 1)), (true), (wrap64 (x8_1 + 1)), (by first | rfl | (simp; done) | (simp [*]; done)), (by first | rfl | (simp; done) | (simp [*]; done)), (by first | rfl | (simp; done) | (simp [*]; done)), H', ⟨by have := HK1.out; have := HJ3.out; omega⟩, ⟨by (with_reducible repeat (first | apply Kd.R_alloc | apply Kd.R_drewN | apply Kd.R_drew)); exact HO192.out⟩, ⟨by repeat (first | (with_reducible first | exact HB.out | apply below_alloc | apply pw_below_drewN | apply below_drew1) | exact HB.out)⟩⟩
                    · rw [if_neg c22] at H
                      exact absurd H (by simp)
                  · rw [if_neg c21] at H
                    have c21b0 : (((rd_T35 l0 x8_1).f0) == 5) = false := beq_eq_false_iff_ne.mpr c21
                    have c21b1 : (((rd_T35 l0 x8_1).f0) != 5) = true := bne_iff_ne.mpr c21
                    have H' := Aside0.mk H
                    clear H
                    have p189 : 0 ≤ (x8_1 : Int) := of_decide_eq_true (by first | (with_reducible assumption) | assumption)
                    have q189 : x8_1 < (l0.length : Int) := of_decide_eq_true (by first | (with_reducible assumption) | assumption)
                    obtain ⟨ad189, e189, hx189_0, hx189_1, hx189_2, hx189_3, hx189_4, hx189_5⟩ := at_T35 HR0.out x8_1 p189 q189
                    cases e189
                    replace hx189_0 := (HB.out.cell (World.block_lt_of_cell? w _ hx189_0)).trans hx189_0
                    replace hx189_1 := (HB.out.cell (World.block_lt_of_cell? w _ hx189_1)).trans hx189_1
                    replace hx189_2 := (HB.out.cell (World.block_lt_of_cell? w _ hx189_2)).trans hx189_2
                    replace hx189_3 := (HB.out.cell (World.block_lt_of_cell? w _ hx189_3)).trans hx189_3
                    replace hx189_4 := (HB.out.cell (World.block_lt_of_cell? w _ hx189_4)).trans hx189_4
                    replace hx189_5 := (HB.out.cell (World.block_lt_of_cell? w _ hx189_5)).trans hx189_5
                    replace p189 := eq_true p189
                    replace q189 := eq_true q189
                    go_wp2
                    go_roundg kj3
                    case measure => have := HK1.out; have := HJ3.out; omega
                    case rel => exact ⟨(x5_1), (x6_1), (false), (wrap64 (x8_1 + 1)), (by first | rfl | (simp; done) | (simp [*]; done)), (by first | rfl | (simp; done) | (simp [*]; done)), (by first | rfl | (simp; done) | (simp [*]; done)), H', ⟨by have := HK1.out; have := HJ3.out; omega⟩, ⟨by (with_reducible repeat (first | apply Kd.R_alloc | apply Kd.R_drewN | apply Kd.R_drew)); exact HO_5.out⟩, ⟨by repeat (first | (with_reducible first | exact HB.out | apply below_alloc | apply pw_below_drewN | apply below_drew1) | exact HB.out)⟩⟩
                · rw [if_neg c20] at H
                  exact absurd H (by simp)
              · rw [if_neg c19] at H
                exact absurd H (by simp)
      · rw [if_neg c3] at H
        have c3b0 : decide (x8_1 < (l0.length : Int)) = false := decide_eq_false c3
        clear c3
        by_cases c24 : x6_1 < (l0.length : Int)
        · rw [if_pos c24] at H
          have c24b0 : decide (x6_1 < (l0.length : Int)) = true := decide_eq_true c24
          clear c24
          by_cases c25 : x5_1.length < 8796093022208
          · rw [if_pos c25] at H
            have LMc25 := Aside0.mk c25
            clear c25
            obtain ⟨y177, hy177⟩ : ∃ y_ : List (S50), y_ = (x5_1 ++ [(⟨x6_1, (l0.length : Int)⟩ : S50)]) := ⟨_, rfl⟩
            replace H : (some y177) = some r := by first | (rw [hy177]; with_reducible exact H) | (have H2_ := (Option.bind_some _ _).symm.trans H; rw [hy177]; with_reducible exact H2_) | (have H2_ := (Option.bind_some _ _).symm.trans H; with_reducible exact H2_) | with_reducible exact H | (rw [hy177]; exact H) | exact H
            have Ny177 := Aside0.mk hy177
            clear hy177
            obtain rfl := Option.some.inj H
            go_wp2_with (first | ((with_reducible refine gate_builtin (b := .append) (xs := #[.tmp 60, .tmp 65]) rfl ?_); at_builtin; refine Kd.R_append k50 (w0 := w) w.heap.size rfl (.tmp 60) (.tmp 65) 47 50 (.agg #[(.int .i64 0), (.int .i64 0)]) 16 rfl Try.underlying47 info50 rfl (by decide) (by omega) u5 x5_1 (⟨x6_1, (l0.length : Int)⟩ : S50) [.int .i64 x6_1, .int .i64 (l0.length : Int)] (fun _ => True) (fun _ => False) rfl rfl ?aP (fun _ hk => hk.elim) ?aF ?aO ?aB ?aS ?aL ?_; (case aP => exact k50_mkM _ _ _ (⟨x6_1, (l0.length : Int)⟩ : S50)); (case aB => exact (bw HB)); (case aF => exact (fun _ _ => trivial)); (case aO => exact (rx HO_5)); (case aS => exact (below_size (bw HB))); (case aL => have := LMc25.out; omega); intro v178 w26 ho hb hg hat; rw [← Ny177.out] at ho; replace HB := Aside0.mk (hb); have HO179 := Aside0.mk (ho); clear HO_5; clear ho hb hg hat))
            go_ret
            exact ⟨_, by first | rfl | (simp [errW_none, errW_some] <;> rfl) | (simp [*, errW_none, errW_some] <;> rfl), by (with_reducible repeat (first | apply Kd.R_alloc | apply Kd.R_drewN | apply Kd.R_drew)); exact HO179.out, by repeat (first | (with_reducible first | exact HB.out | apply below_alloc | apply pw_below_drewN | apply below_drew1) | exact HB.out)⟩
          · rw [if_neg c25] at H
            exact absurd H (by simp)
        · rw [if_neg c24] at H
          have c24b0 : decide (x6_1 < (l0.length : Int)) = false := decide_eq_false c24
          clear c24
          obtain rfl := Option.some.inj H
          go_wp2
          go_ret
          exact ⟨_, by first | rfl | (simp [errW_none, errW_some] <;> rfl) | (simp [*, errW_none, errW_some] <;> rfl), by (with_reducible repeat (first | apply Kd.R_alloc | apply Kd.R_drewN | apply Kd.R_drew)); exact HO_5.out, by repeat (first | (with_reducible first | exact HB.out | apply below_alloc | apply pw_below_drewN | apply below_drew1) | exact HB.out)⟩

/-! ### stickfulref13_edge: function 41 -/
def stickfulref13_edge.f (a0_0 a0_1 a0_2 a0_3 : Int) (a0_4 a0_5 : Bool) : Option (Bool) := if a0_0 = 7 then (some true) else (if a0_0 = 8 then (some true) else (some (a0_0 == 5)))
set_option maxHeartbeats 8000000 in
set_option maxRecDepth 100000 in
theorem stickfulref13_edge.calls (a0_0 a0_1 a0_2 a0_3 : Int) (a0_4 a0_5 r : Bool) (w : World) (h : stickfulref13_edge.f a0_0 a0_1 a0_2 a0_3 a0_4 a0_5 = some r) :
    Calls Try.prog 41 #[.agg #[.int .u8 a0_0, .int .i64 a0_1, .int .i64 a0_2, .int .i64 a0_3, .bool a0_4, .bool a0_5]] w fun e w' => e = .returned (.bool r) ∧ Below w.heap.size w w' := by
  have hu35 := Try.underlying35
  have HB := Aside0.mk (Below.refl w.heap.size w)
  have H : (if a0_0 = 7 then (some true) else (if a0_0 = 8 then (some true) else (some (a0_0 == 5)))) = some r := h
  clear h
  by_cases c2 : a0_0 = 7
  · rw [if_pos c2] at H
    have c2b0 : (a0_0 == 7) = true := beq_iff_eq.mpr c2
    have c2b1 : (a0_0 != 7) = false := bne_eq_false_iff_eq.mpr c2
    clear c2
    obtain rfl := Option.some.inj H
    go_enter Try.func41, Try.ntmps41
    go_wp2_with (first | ((with_reducible refine gate_dst (N := 1) rfl ?_); refine box_event ?hg (N := 1) ?hd (cs := #[.int .u8 a0_0, .int .i64 a0_1, .int .i64 a0_2, .int .i64 a0_3, .bool a0_4, .bool a0_5]) (t := 35) ?hr ?_; (case hd => rfl); (case hg => rfl); (case hr => first | (go_simp; done) | (go_simp; rfl)); intro gb193 hg w3 hbox hb; have BK193 := Aside0.mk (hbox); have GW193 := bge HB hg; have GE193 := bge HB hg; replace HB := bh HB hb; clear hb hbox hg; obtain ⟨hcz4_0, hcz4_1, hcz4_2, hcz4_3, hcz4_4, hcz4_5⟩ := cz6 BK193; obtain ⟨hfz4_0, hfz4_1, hfz4_2, hfz4_3, hfz4_4, hfz4_5⟩ := fz6 BK193))
    go_ret
    exact ⟨by first | rfl | (simp [errW_none, errW_some] <;> rfl) | (simp [*, errW_none, errW_some] <;> rfl), by repeat (first | (with_reducible first | exact HB.out | apply below_alloc | apply pw_below_drewN | apply below_drew1 | refine below_set ?_ GE193.out) | exact HB.out)⟩
  · rw [if_neg c2] at H
    have c2b0 : (a0_0 == 7) = false := beq_eq_false_iff_ne.mpr c2
    have c2b1 : (a0_0 != 7) = true := bne_iff_ne.mpr c2
    by_cases c5 : a0_0 = 8
    · rw [if_pos c5] at H
      have c5b0 : (a0_0 == 8) = true := beq_iff_eq.mpr c5
      have c5b1 : (a0_0 != 8) = false := bne_eq_false_iff_eq.mpr c5
      clear c5
      obtain rfl := Option.some.inj H
      go_enter Try.func41, Try.ntmps41
      go_wp2_with (first | ((with_reducible refine gate_dst (N := 1) rfl ?_); refine box_event ?hg (N := 1) ?hd (cs := #[.int .u8 a0_0, .int .i64 a0_1, .int .i64 a0_2, .int .i64 a0_3, .bool a0_4, .bool a0_5]) (t := 35) ?hr ?_; (case hd => rfl); (case hg => rfl); (case hr => first | (go_simp; done) | (go_simp; rfl)); intro gb193 hg w6 hbox hb; have BK193 := Aside0.mk (hbox); have GW193 := bge HB hg; have GE193 := bge HB hg; replace HB := bh HB hb; clear hb hbox hg; obtain ⟨hcz7_0, hcz7_1, hcz7_2, hcz7_3, hcz7_4, hcz7_5⟩ := cz6 BK193; obtain ⟨hfz7_0, hfz7_1, hfz7_2, hfz7_3, hfz7_4, hfz7_5⟩ := fz6 BK193))
      go_ret
      exact ⟨by first | rfl | (simp [errW_none, errW_some] <;> rfl) | (simp [*, errW_none, errW_some] <;> rfl), by repeat (first | (with_reducible first | exact HB.out | apply below_alloc | apply pw_below_drewN | apply below_drew1 | refine below_set ?_ GE193.out) | exact HB.out)⟩
    · rw [if_neg c5] at H
      have c5b0 : (a0_0 == 8) = false := beq_eq_false_iff_ne.mpr c5
      have c5b1 : (a0_0 != 8) = true := bne_iff_ne.mpr c5
      obtain rfl := Option.some.inj H
      go_enter Try.func41, Try.ntmps41
      go_wp2_with (first | ((with_reducible refine gate_dst (N := 1) rfl ?_); refine box_event ?hg (N := 1) ?hd (cs := #[.int .u8 a0_0, .int .i64 a0_1, .int .i64 a0_2, .int .i64 a0_3, .bool a0_4, .bool a0_5]) (t := 35) ?hr ?_; (case hd => rfl); (case hg => rfl); (case hr => first | (go_simp; done) | (go_simp; rfl)); intro gb193 hg w8 hbox hb; have BK193 := Aside0.mk (hbox); have GW193 := bge HB hg; have GE193 := bge HB hg; replace HB := bh HB hb; clear hb hbox hg; obtain ⟨hcz9_0, hcz9_1, hcz9_2, hcz9_3, hcz9_4, hcz9_5⟩ := cz6 BK193; obtain ⟨hfz9_0, hfz9_1, hfz9_2, hfz9_3, hfz9_4, hfz9_5⟩ := fz6 BK193))
      go_ret
      exact ⟨by first | rfl | (simp [errW_none, errW_some] <;> rfl) | (simp [*, errW_none, errW_some] <;> rfl), by repeat (first | (with_reducible first | exact HB.out | apply below_alloc | apply pw_below_drewN | apply below_drew1 | refine below_set ?_ GE193.out) | exact HB.out)⟩

end Go.Proofs.Ytkegnlidlabjeaa.HIntr
