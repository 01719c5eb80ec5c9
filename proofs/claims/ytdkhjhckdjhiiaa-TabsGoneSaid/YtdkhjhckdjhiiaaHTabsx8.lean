-- Written by this claim's own program over the kit's print.
import Derived.Test.YtdkhjhckdjhiiaaHTabsb
import Derived.Test.YtdkhjhckdjhiiaaHTabsx0
import Derived.Test.YtdkhjhckdjhiiaaHTabsx4
import Derived.Test.YtdkhjhckdjhiiaaHTabsx5
namespace Go.Proofs.Ytdkhjhckdjhiiaa.HTabs
open Go.RowKit Go.Proofs.YtdkhjhckdjhiiaaW.PrintWords Go.Proofs.YtdkhjhckdjhiiaaW.PrintLast Go.Proofs.YtdkhjhckdjhiiaaW.PrintMore Go.Proofs.Ytdkhjhckdjhiiaa.Hand
attribute [local go_sem] max2_int min2_int max_two min_two max_three min_three max_four min_four   -- for this text's walks alone
set_option linter.unusedVariables false
set_option linter.unusedSimpArgs false

/-! ### stickfullaw12_TabsGone: function 5 -/
mutual
def stickfullaw12_TabsGone.j0 : Nat → List (S31) → List Int → Int → Bool → Option (Bool)
  | 0, _, _, _, _ => none
  | k + 1, x0, x1, x2, x22 => if x22 = true then ((stickfullaw12_head.f k).bind fun t247 => (some t247)) else (stickfullaw12_TabsGone.l0 k x0 x1 x2 ([] : List (S31)) 0)
def stickfullaw12_TabsGone.l0 : Nat → List (S31) → List Int → Int → List (S31) → Int → Option (Bool)
  | 0, _, _, _, _, _ => none
  | k + 1, x0, x1, x2, x7, x8 => if x8 < (x0.length : Int) then (if x8 ≥ (x1.length : Int) then (if 0 ≤ x8 then (if x7.length < 3518437208883 then (stickfullaw12_TabsGone.l0 k x0 x1 x2 (x7 ++ [(⟨(rd_T31 x0 x8).f0, (rd_T31 x0 x8).f1, (rd_T31 x0 x8).f2, (rd_T31 x0 x8).f3, (rd_T31 x0 x8).f4, (rd_T31 x0 x8).f5⟩ : S31)]) (wrap64 (x8 + 1))) else (none)) else (none)) else (if 0 ≤ x8 then (if x8 < (x1.length : Int) then (if (rd x1 x8) = 1 then (stickfullaw12_TabsGone.l0 k x0 x1 x2 x7 (wrap64 (x8 + 1))) else (if x7.length < 3518437208883 then (stickfullaw12_TabsGone.l0 k x0 x1 x2 (x7 ++ [(⟨(rd_T31 x0 x8).f0, (rd_T31 x0 x8).f1, (rd_T31 x0 x8).f2, (rd_T31 x0 x8).f3, (rd_T31 x0 x8).f4, (rd_T31 x0 x8).f5⟩ : S31)]) (wrap64 (x8 + 1))) else (none))) else (none)) else (none))) else ((tabs_Pens.f x0 x1 x2).bind fun bt257 => ((tabs_Pens.f x7 ([] : List Int) x2).bind fun bt261 => (if bt257.2 = 0 then (if bt261.2 = 0 then (if (bt257.1.length : Int) = (wrap64 ((x0.length : Int) + 1)) then (stickfullaw12_TabsGone.j2 k x0 x1 bt257.1 bt261.1 ((bt261.1.length : Int) != (wrap64 ((x7.length : Int) + 1)))) else (stickfullaw12_TabsGone.j2 k x0 x1 bt257.1 bt261.1 true)) else (stickfullaw12_TabsGone.j2 k x0 x1 bt257.1 bt261.1 true)) else (if bt261.2 = 0 then (if bt257.2 = 2 then ((stickfullaw12_head.f k).bind fun t265 => (some t265)) else (some false)) else ((stickfullaw12_head.f k).bind fun t266 => (some t266))))))
def stickfullaw12_TabsGone.j2 : Nat → List (S31) → List Int → List Int → List Int → Bool → Option (Bool)
  | 0, _, _, _, _, _ => none
  | k + 1, x0, x1, x9, x11, x89 => if x89 = true then (some false) else (stickfullaw12_TabsGone.l1 k x0 x1 x9 x11 0 0)
def stickfullaw12_TabsGone.l1 : Nat → List (S31) → List Int → List Int → List Int → Int → Int → Option (Bool)
  | 0, _, _, _, _, _, _ => none
  | k + 1, x0, x1, x9, x11, x13, x14 => if x14 < (x0.length : Int) then (if x14 ≥ (x1.length : Int) then (stickfullaw12_TabsGone.j4 k x0 x1 x9 x11 x13 x14 true) else (if 0 ≤ x14 then (if x14 < (x1.length : Int) then (stickfullaw12_TabsGone.j4 k x0 x1 x9 x11 x13 x14 ((rd x1 x14) != 1)) else (none)) else (none))) else (if 0 < (x9.length : Int) then (if 0 < (x11.length : Int) then (if (rd x9 0) = (rd x11 0) then ((stickfullaw12_head.f k).bind fun t269 => (some t269)) else (some false)) else (none)) else (none))
def stickfullaw12_TabsGone.j4 : Nat → List (S31) → List Int → List Int → List Int → Int → Int → Bool → Option (Bool)
  | 0, _, _, _, _, _, _, _ => none
  | k + 1, x0, x1, x9, x11, x13, x14, x106 => if x106 = true then (if 0 ≤ (wrap64 (x14 + 1)) then (if (wrap64 (x14 + 1)) < (x9.length : Int) then (if 0 ≤ (wrap64 (x13 + 1)) then (if (wrap64 (x13 + 1)) < (x11.length : Int) then (if (rd x9 (wrap64 (x14 + 1))) = (rd x11 (wrap64 (x13 + 1))) then (stickfullaw12_TabsGone.l1 k x0 x1 x9 x11 (wrap64 (x13 + 1)) (wrap64 (x14 + 1))) else (some false)) else (none)) else (none)) else (none)) else (none)) else (if 0 ≤ (wrap64 (x14 + 1)) then (if (wrap64 (x14 + 1)) < (x9.length : Int) then (if 0 ≤ x13 then (if x13 < (x11.length : Int) then (if (rd x9 (wrap64 (x14 + 1))) = (rd x11 x13) then (stickfullaw12_TabsGone.l1 k x0 x1 x9 x11 x13 (wrap64 (x14 + 1))) else (some false)) else (none)) else (none)) else (none)) else (none))
end
def stickfullaw12_TabsGone.f (k : Nat) (l0 : List (S31)) (l1 : List Int) (a2 : Int) : Option (Bool) := if (l0.length : Int) > 200 then (stickfullaw12_TabsGone.j0 k l0 l1 a2 true) else (stickfullaw12_TabsGone.j0 k l0 l1 a2 (decide ((l1.length : Int) > 300)))
theorem stickfullaw12_TabsGone.mono_l : ∀ k, (∀ y0 y1 y2 y3, LeO (stickfullaw12_TabsGone.j0 k y0 y1 y2 y3) (stickfullaw12_TabsGone.j0 (k + 1) y0 y1 y2 y3)) ∧ (∀ y0 y1 y2 y3 y4, LeO (stickfullaw12_TabsGone.l0 k y0 y1 y2 y3 y4) (stickfullaw12_TabsGone.l0 (k + 1) y0 y1 y2 y3 y4)) ∧ (∀ y0 y1 y2 y3 y4, LeO (stickfullaw12_TabsGone.j2 k y0 y1 y2 y3 y4) (stickfullaw12_TabsGone.j2 (k + 1) y0 y1 y2 y3 y4)) ∧ (∀ y0 y1 y2 y3 y4 y5, LeO (stickfullaw12_TabsGone.l1 k y0 y1 y2 y3 y4 y5) (stickfullaw12_TabsGone.l1 (k + 1) y0 y1 y2 y3 y4 y5)) ∧ (∀ y0 y1 y2 y3 y4 y5 y6, LeO (stickfullaw12_TabsGone.j4 k y0 y1 y2 y3 y4 y5 y6) (stickfullaw12_TabsGone.j4 (k + 1) y0 y1 y2 y3 y4 y5 y6))
  | 0 => ⟨fun _ _ _ _ r h => by simp [stickfullaw12_TabsGone.j0] at h, fun _ _ _ _ _ r h => by simp [stickfullaw12_TabsGone.l0] at h, fun _ _ _ _ _ r h => by simp [stickfullaw12_TabsGone.j2] at h, fun _ _ _ _ _ _ r h => by simp [stickfullaw12_TabsGone.l1] at h, fun _ _ _ _ _ _ _ r h => by simp [stickfullaw12_TabsGone.j4] at h⟩
  | k + 1 => by
    obtain ⟨ih0, ih1, ih2, ih3, ih4⟩ := stickfullaw12_TabsGone.mono_l k
    refine ⟨?_, ?_, ?_, ?_, ?_⟩
    · intro y0 y1 y2 y3
      unfold stickfullaw12_TabsGone.j0
      repeat' first
      | (with_reducible exact ih0 _ _ _ _)
      | (with_reducible exact ih1 _ _ _ _ _)
      | (with_reducible exact ih2 _ _ _ _ _)
      | (with_reducible exact ih3 _ _ _ _ _ _)
      | (with_reducible exact ih4 _ _ _ _ _ _ _)
      | (with_reducible exact stickfullaw12_head.mono _)
      | (with_reducible exact LeO.refl _)
      | (with_reducible exact LeO.none _)
      | (with_reducible refine LeO.ite ?_ ?_)
      | (with_reducible refine LeO.bind ?_ (fun _ => ?_))
      | exact ih0 _ _ _ _
      | exact ih1 _ _ _ _ _
      | exact ih2 _ _ _ _ _
      | exact ih3 _ _ _ _ _ _
      | exact ih4 _ _ _ _ _ _ _
      | exact stickfullaw12_head.mono _
      | exact LeO.none _
      | refine LeO.ite ?_ ?_
      | refine LeO.bind ?_ (fun _ => ?_)
    · intro y0 y1 y2 y3 y4
      unfold stickfullaw12_TabsGone.l0
      repeat' first
      | (with_reducible exact ih0 _ _ _ _)
      | (with_reducible exact ih1 _ _ _ _ _)
      | (with_reducible exact ih2 _ _ _ _ _)
      | (with_reducible exact ih3 _ _ _ _ _ _)
      | (with_reducible exact ih4 _ _ _ _ _ _ _)
      | (with_reducible exact stickfullaw12_head.mono _)
      | (with_reducible exact LeO.refl _)
      | (with_reducible exact LeO.none _)
      | (with_reducible refine LeO.ite ?_ ?_)
      | (with_reducible refine LeO.bind ?_ (fun _ => ?_))
      | exact ih0 _ _ _ _
      | exact ih1 _ _ _ _ _
      | exact ih2 _ _ _ _ _
      | exact ih3 _ _ _ _ _ _
      | exact ih4 _ _ _ _ _ _ _
      | exact stickfullaw12_head.mono _
      | exact LeO.none _
      | refine LeO.ite ?_ ?_
      | refine LeO.bind ?_ (fun _ => ?_)
    · intro y0 y1 y2 y3 y4
      unfold stickfullaw12_TabsGone.j2
      repeat' first
      | (with_reducible exact ih0 _ _ _ _)
      | (with_reducible exact ih1 _ _ _ _ _)
      | (with_reducible exact ih2 _ _ _ _ _)
      | (with_reducible exact ih3 _ _ _ _ _ _)
      | (with_reducible exact ih4 _ _ _ _ _ _ _)
      | (with_reducible exact stickfullaw12_head.mono _)
      | (with_reducible exact LeO.refl _)
      | (with_reducible exact LeO.none _)
      | (with_reducible refine LeO.ite ?_ ?_)
      | (with_reducible refine LeO.bind ?_ (fun _ => ?_))
      | exact ih0 _ _ _ _
      | exact ih1 _ _ _ _ _
      | exact ih2 _ _ _ _ _
      | exact ih3 _ _ _ _ _ _
      | exact ih4 _ _ _ _ _ _ _
      | exact stickfullaw12_head.mono _
      | exact LeO.none _
      | refine LeO.ite ?_ ?_
      | refine LeO.bind ?_ (fun _ => ?_)
    · intro y0 y1 y2 y3 y4 y5
      unfold stickfullaw12_TabsGone.l1
      repeat' first
      | (with_reducible exact ih0 _ _ _ _)
      | (with_reducible exact ih1 _ _ _ _ _)
      | (with_reducible exact ih2 _ _ _ _ _)
      | (with_reducible exact ih3 _ _ _ _ _ _)
      | (with_reducible exact ih4 _ _ _ _ _ _ _)
      | (with_reducible exact stickfullaw12_head.mono _)
      | (with_reducible exact LeO.refl _)
      | (with_reducible exact LeO.none _)
      | (with_reducible refine LeO.ite ?_ ?_)
      | (with_reducible refine LeO.bind ?_ (fun _ => ?_))
      | exact ih0 _ _ _ _
      | exact ih1 _ _ _ _ _
      | exact ih2 _ _ _ _ _
      | exact ih3 _ _ _ _ _ _
      | exact ih4 _ _ _ _ _ _ _
      | exact stickfullaw12_head.mono _
      | exact LeO.none _
      | refine LeO.ite ?_ ?_
      | refine LeO.bind ?_ (fun _ => ?_)
    · intro y0 y1 y2 y3 y4 y5 y6
      unfold stickfullaw12_TabsGone.j4
      repeat' first
      | (with_reducible exact ih0 _ _ _ _)
      | (with_reducible exact ih1 _ _ _ _ _)
      | (with_reducible exact ih2 _ _ _ _ _)
      | (with_reducible exact ih3 _ _ _ _ _ _)
      | (with_reducible exact ih4 _ _ _ _ _ _ _)
      | (with_reducible exact stickfullaw12_head.mono _)
      | (with_reducible exact LeO.refl _)
      | (with_reducible exact LeO.none _)
      | (with_reducible refine LeO.ite ?_ ?_)
      | (with_reducible refine LeO.bind ?_ (fun _ => ?_))
      | exact ih0 _ _ _ _
      | exact ih1 _ _ _ _ _
      | exact ih2 _ _ _ _ _
      | exact ih3 _ _ _ _ _ _
      | exact ih4 _ _ _ _ _ _ _
      | exact stickfullaw12_head.mono _
      | exact LeO.none _
      | refine LeO.ite ?_ ?_
      | refine LeO.bind ?_ (fun _ => ?_)
theorem stickfullaw12_TabsGone.mono : ∀ a0 a1 a2 k, LeO (stickfullaw12_TabsGone.f k a0 a1 a2) (stickfullaw12_TabsGone.f (k + 1) a0 a1 a2) := by
  intro a0 a1 a2 k
  obtain ⟨ih0, ih1, ih2, ih3, ih4⟩ := stickfullaw12_TabsGone.mono_l k
  unfold stickfullaw12_TabsGone.f
  repeat' first
      | (with_reducible exact ih0 _ _ _ _)
      | (with_reducible exact ih1 _ _ _ _ _)
      | (with_reducible exact ih2 _ _ _ _ _)
      | (with_reducible exact ih3 _ _ _ _ _ _)
      | (with_reducible exact ih4 _ _ _ _ _ _ _)
      | (with_reducible exact stickfullaw12_head.mono _)
      | (with_reducible exact LeO.refl _)
      | (with_reducible exact LeO.none _)
      | (with_reducible refine LeO.ite ?_ ?_)
      | (with_reducible refine LeO.bind ?_ (fun _ => ?_))
      | exact ih0 _ _ _ _
      | exact ih1 _ _ _ _ _
      | exact ih2 _ _ _ _ _
      | exact ih3 _ _ _ _ _ _
      | exact ih4 _ _ _ _ _ _ _
      | exact stickfullaw12_head.mono _
      | exact LeO.none _
      | refine LeO.ite ?_ ?_
      | refine LeO.bind ?_ (fun _ => ?_)
def stickfullaw12_TabsGone.T21 : Bool × List (List Nat × List Nat) := (true, [([], []), ([], []), ([1], [1]), ([0, 2], [0, 2]), ([3], [3]), ([], []), ([], []), ([5, 6], [5, 6]), ([7], [7]), ([4, 8], [4, 8])])
def stickfullaw12_TabsGone.B21 : List Nat := [0, 0, 2, 7, 15, 0, 0, 96, 224, 511]
theorem stickfullaw12_TabsGone.tab21 : rtab .any (opsOf Try.f5 21) = stickfullaw12_TabsGone.T21 := by kernel_rfl
theorem stickfullaw12_TabsGone.bits21 : waitsOk stickfullaw12_TabsGone.T21.2 stickfullaw12_TabsGone.B21 = true := by kernel_rfl
def stickfullaw12_TabsGone.T23 : Bool × List (List Nat × List Nat) := (true, [([], []), ([0], [0]), ([1], [1]), ([], []), ([3], [3]), ([4], [4]), ([2, 5], [2, 5]), ([6], [6]), ([7, 7], [7]), ([7, 8], [7, 8]), ([9, 8, 0, 1, 2, 3, 4, 5, 6, 7, 8, 9], [9])])
def stickfullaw12_TabsGone.B23 : List Nat := [0, 1, 3, 0, 8, 24, 63, 127, 255, 511, 1023]
theorem stickfullaw12_TabsGone.tab23 : rtab .any (opsOf Try.f5 23) = stickfullaw12_TabsGone.T23 := by kernel_rfl
theorem stickfullaw12_TabsGone.bits23 : waitsOk stickfullaw12_TabsGone.T23.2 stickfullaw12_TabsGone.B23 = true := by kernel_rfl
set_option maxHeartbeats 8000000 in
set_option maxRecDepth 100000 in
theorem stickfullaw12_TabsGone.calls_t (k : Nat) (A0 : Option Addr) (c0 : Nat) (l0 : List (S31)) (A1 : Option Addr) (c1 : Nat) (l1 : List Int) (a2 : Int) (r : Bool) (w : World) (hr0 : Kd.C k31 w A0 l0.length l0) (hc0 : l0.length ≤ c0) (hr1 : Kd.C (Kd.int .u8) w A1 l1.length l1) (hc1 : l1.length ≤ c1) (h : stickfullaw12_TabsGone.f k l0 l1 a2 = some r) (hr_ : r = true) :
    Calls Try.prog 5 #[.slice A0 l0.length c0, .slice A1 l1.length c1, .int .i64 a2] w fun e w' => e = .returned (.bool r) ∧ Below w.heap.size w w' := by
  have hu31 := Try.underlying31
  have HR_ := Aside0.mk hr_
  clear hr_
  have HR0 := Aside0.mk hr0
  have HC0 := Aside0.mk hc0
  clear hr0 hc0
  have HR1 := Aside0.mk hr1
  have HC1 := Aside0.mk hc1
  clear hr1 hc1
  have HB := Aside0.mk (Below.refl w.heap.size w)
  have H : (if (l0.length : Int) > 200 then (stickfullaw12_TabsGone.j0 k l0 l1 a2 true) else (stickfullaw12_TabsGone.j0 k l0 l1 a2 (decide ((l1.length : Int) > 300)))) = some r := h
  clear h
  have HC4 := Aside0.mk H
  clear H
  go_enter Try.func5, Try.ntmps5
  go_upto_region 1 with (fail)
  go_cut [22] (fun v22 wc => ∃ (kq : Nat) (x22_3 : Bool), v22 = .bool x22_3 ∧ Aside0 (stickfullaw12_TabsGone.j0 kq l0 l1 a2 x22_3 = some r) ∧ Aside0 (kq ≤ k) ∧ Aside0 (Below w.heap.size w wc))
  case first =>
    have H := HC4.out
    clear HC4
    by_cases c5 : (l0.length : Int) > 200
    · rw [if_pos c5] at H
      have c5b0 : decide (200 < (l0.length : Int)) = true := decide_eq_true c5
      have c5b1 : decide (200 < l0.length) = true := decide_eq_true (by omega)
      clear c5
      (first | rw [c5b0] | (simp only [i64_w, i32_w]; rw [c5b0]) | skip)
      have H' := Aside0.mk H
      clear H
      go_wp2
      go_meet
      case rel => exact ⟨_, (true), (by first | rfl | (simp; done) | (simp [*]; done)), H', ⟨by first | omega | exact Nat.le_refl _⟩, ⟨by repeat (first | (with_reducible first | exact HB.out | apply below_alloc | apply pw_below_drewN | apply below_drew1) | exact HB.out)⟩⟩
    · rw [if_neg c5] at H
      have c5b0 : decide (200 < (l0.length : Int)) = false := decide_eq_false c5
      have c5b1 : decide (200 < l0.length) = false := decide_eq_false (by omega)
      clear c5
      (first | rw [c5b0] | (simp only [i64_w, i32_w]; rw [c5b0]) | skip)
      have H' := Aside0.mk H
      clear H
      go_wp2
      go_meet
      case rel => exact ⟨_, (decide ((l1.length : Int) > 300)), (by first | rfl | (simp; done) | (simp [*]; done)), H', ⟨by first | omega | exact Nat.le_refl _⟩, ⟨by repeat (first | (with_reducible first | exact HB.out | apply below_alloc | apply pw_below_drewN | apply below_drew1) | exact HB.out)⟩⟩
  case rest =>
    clear HC4
    try clear c1
    try clear p2
    try clear c5
    try clear c5b0
    try clear c5b1
    obtain ⟨kq, x22_3, rfl, HA, HJ3, HB⟩ := hcut
    cases kq with
    | zero => exact absurd HA.out (by simp [stickfullaw12_TabsGone.j0])
    | succ kj3 =>
      have H := HA.out
      clear HA
      simp only [stickfullaw12_TabsGone.j0] at H
      by_cases c6 : x22_3 = true
      · subst c6
        have H1 : ((stickfullaw12_head.f kj3).bind fun t247 => (some t247)) = some r := by rw [if_pos rfl] at H; exact H
        clear H
        have H := H1
        clear H1
        replace H := Option.bind_eq_some_iff.mp H
        obtain ⟨t247, A70, H⟩ := H
        replace H : (some t247) = some r := H
        have A7 := Aside0.mk A70
        clear A70
        obtain rfl := Option.some.inj H
        go_wp2_with (first | ((with_reducible refine gate_callee (f := 7) rfl ?_); refine goesB (some 23) rfl rfl Try.func7 #[] rfl ?_; (with_reducible refine (stickfullaw12_head.calls kj3  t247 _ A7.out).mono ?_); rintro e w8 ⟨rfl, hb⟩; refine ⟨_, rfl, ?_⟩; replace HB := bh HB hb; (try clear hb); (try clear hb2); (try clear hk); (try clear hi)))
        go_ret
        exact ⟨by first | rfl | (simp [errW_none, errW_some] <;> rfl) | (simp [*, errW_none, errW_some] <;> rfl), by repeat (first | (with_reducible first | exact HB.out | apply below_alloc | apply pw_below_drewN | apply below_drew1) | exact HB.out)⟩
      · replace c6 := Bool.eq_false_iff.mpr c6
        subst c6
        have H1 : (stickfullaw12_TabsGone.l0 kj3 l0 l1 a2 ([] : List (S31)) 0) = some r := by rw [if_neg (show ¬ (false = true) by decide)] at H; exact H
        clear H
        have H := H1
        clear H1
        have H' := Aside0.mk H
        clear H
        go_wp2
        go_loopg [7, 8] kj3 (fun kq v7 v8 w' => ∃ (x7_2 : List (S31)) (x8_2 : Int), v8 = .int .i64 x8_2 ∧ Aside0 (stickfullaw12_TabsGone.l0 kq l0 l1 a2 x7_2 x8_2 = some r) ∧ Aside0 (kq ≤ kj3) ∧ Aside0 (Kd.R k31 31 w' w.heap.size (fun _ => True) v7 x7_2) ∧ Aside0 (Below w.heap.size w w'))
        case atStart => exact ⟨(([] : List (S31))), (0), (by first | rfl | (simp; done) | (simp [*]; done)), H', ⟨Nat.le_refl _⟩, ⟨by first | exact Kd.R_nil _ _ _ _ _ | exact Kd.N_nil _ _ _ _ _ | exact Kd.V_nil _ _ _ _ _ | exact Kd.Q_nil _ _ _ _ _ | exact Kd.S_nil _ _ _ _ _⟩, ⟨by repeat (first | (with_reducible first | exact HB.out | apply below_alloc | apply pw_below_drewN | apply below_drew1) | exact HB.out)⟩⟩
        case round =>
          clear H'
          try clear c1
          try clear p2
          try clear c5
          try clear c5b0
          try clear c5b1
          try clear c6
          try clear c7
          try clear p2
          obtain ⟨x7_2, x8_2, rfl, HA, HK2, HO_7, HB⟩ := hrel
          cases gk with
          | zero => exact absurd HA.out (by simp [stickfullaw12_TabsGone.l0])
          | succ k2 =>
            have H := HA.out
            clear HA
            simp only [stickfullaw12_TabsGone.l0] at H
            by_cases c9 : x8_2 < (l0.length : Int)
            · rw [if_pos c9] at H
              have c9b0 : decide (x8_2 < (l0.length : Int)) = true := decide_eq_true c9
              clear c9
              by_cases c10 : x8_2 ≥ (l1.length : Int)
              · rw [if_pos c10] at H
                have c10b0 : decide ((l1.length : Int) ≤ x8_2) = true := decide_eq_true c10
                clear c10
                by_cases c11 : 0 ≤ x8_2
                · rw [if_pos c11] at H
                  have c11b0 : decide (0 ≤ x8_2) = true := decide_eq_true c11
                  clear c11
                  by_cases c12 : x7_2.length < 3518437208883
                  · rw [if_pos c12] at H
                    have LMc12 := Aside0.mk c12
                    clear c12
                    obtain ⟨y249, hy249⟩ : ∃ y_ : List (S31), y_ = (x7_2 ++ [(⟨(rd_T31 l0 x8_2).f0, (rd_T31 l0 x8_2).f1, (rd_T31 l0 x8_2).f2, (rd_T31 l0 x8_2).f3, (rd_T31 l0 x8_2).f4, (rd_T31 l0 x8_2).f5⟩ : S31)]) := ⟨_, rfl⟩
                    replace H : (stickfullaw12_TabsGone.l0 k2 l0 l1 a2 y249 (wrap64 (x8_2 + 1))) = some r := by first | (rw [hy249]; with_reducible exact H) | (have H2_ := (Option.bind_some _ _).symm.trans H; rw [hy249]; with_reducible exact H2_) | (have H2_ := (Option.bind_some _ _).symm.trans H; with_reducible exact H2_) | with_reducible exact H | (rw [hy249]; exact H) | exact H
                    have Ny249 := Aside0.mk hy249
                    clear hy249
                    have H' := Aside0.mk H
                    clear H
                    have p248 : 0 ≤ (x8_2 : Int) := of_decide_eq_true (by first | (with_reducible assumption) | assumption)
                    have q248 : x8_2 < (l0.length : Int) := of_decide_eq_true (by first | (with_reducible assumption) | assumption)
                    obtain ⟨ad248, e248, hx248_0, hx248_1, hx248_2, hx248_3, hx248_4, hx248_5⟩ := at_T31 HR0.out x8_2 p248 q248
                    cases e248
                    replace hx248_0 := (HB.out.cell (World.block_lt_of_cell? w _ hx248_0)).trans hx248_0
                    replace hx248_1 := (HB.out.cell (World.block_lt_of_cell? w _ hx248_1)).trans hx248_1
                    replace hx248_2 := (HB.out.cell (World.block_lt_of_cell? w _ hx248_2)).trans hx248_2
                    replace hx248_3 := (HB.out.cell (World.block_lt_of_cell? w _ hx248_3)).trans hx248_3
                    replace hx248_4 := (HB.out.cell (World.block_lt_of_cell? w _ hx248_4)).trans hx248_4
                    replace hx248_5 := (HB.out.cell (World.block_lt_of_cell? w _ hx248_5)).trans hx248_5
                    replace p248 := eq_true p248
                    replace q248 := eq_true q248
                    go_wp2_with (first | ((with_reducible refine gate_builtin (b := .append) (xs := #[.tmp 41, .tmp 46]) rfl ?_); (try (refine gate_guard (by rfl) ?_; dsimp only)); at_builtin; refine Kd.R_append k31 (w0 := w) w.heap.size rfl (.tmp 41) (.tmp 46) 22 31 (.agg #[(.int .u8 0), (.int .i64 0), (.int .i64 0), (.int .i64 0), (.bool false), (.bool false)]) 40 rfl Try.underlying22 info31 rfl (by decide) (by omega) u7 x7_2 (⟨(rd_T31 l0 x8_2).f0, (rd_T31 l0 x8_2).f1, (rd_T31 l0 x8_2).f2, (rd_T31 l0 x8_2).f3, (rd_T31 l0 x8_2).f4, (rd_T31 l0 x8_2).f5⟩ : S31) [.int .u8 ((rd_T31 l0 x8_2).f0), .int .i64 ((rd_T31 l0 x8_2).f1), .int .i64 ((rd_T31 l0 x8_2).f2), .int .i64 ((rd_T31 l0 x8_2).f3), .bool ((rd_T31 l0 x8_2).f4), .bool ((rd_T31 l0 x8_2).f5)] (fun _ => True) (fun _ => False) rfl rfl ?aP (fun _ hk => hk.elim) ?aF ?aO ?aB ?aS ?aL ?_; (case aP => exact k31_mkM _ _ _ (⟨(rd_T31 l0 x8_2).f0, (rd_T31 l0 x8_2).f1, (rd_T31 l0 x8_2).f2, (rd_T31 l0 x8_2).f3, (rd_T31 l0 x8_2).f4, (rd_T31 l0 x8_2).f5⟩ : S31)); (case aB => exact (bw HB)); (case aF => exact (fun _ _ => trivial)); (case aO => exact (rx HO_7)); (case aS => exact (below_size (bw HB))); (case aL => have := LMc12.out; omega); intro v250 w13 ho hb hg hat; rw [← Ny249.out] at ho; replace HB := Aside0.mk (hb); have HO251 := Aside0.mk (ho); clear HO_7; clear ho hb hg hat))
                    go_roundg k2
                    case measure => have := HJ3.out; have := HK2.out; omega
                    case rel => exact ⟨(y249), (wrap64 (x8_2 + 1)), (by first | rfl | (simp; done) | (simp [*]; done)), H', ⟨by have := HJ3.out; have := HK2.out; omega⟩, ⟨by (with_reducible repeat (first | apply Kd.R_alloc | apply Kd.R_drewN | apply Kd.R_drew)); exact HO251.out⟩, ⟨by repeat (first | (with_reducible first | exact HB.out | apply below_alloc | apply pw_below_drewN | apply below_drew1) | exact HB.out)⟩⟩
                  · rw [if_neg c12] at H
                    exact absurd H (by simp)
                · rw [if_neg c11] at H
                  exact absurd H (by simp)
              · rw [if_neg c10] at H
                have c10b0 : decide ((l1.length : Int) ≤ x8_2) = false := decide_eq_false c10
                clear c10
                by_cases c14 : 0 ≤ x8_2
                · rw [if_pos c14] at H
                  have c14b0 : decide (0 ≤ x8_2) = true := decide_eq_true c14
                  clear c14
                  by_cases c15 : x8_2 < (l1.length : Int)
                  · rw [if_pos c15] at H
                    have c15b0 : decide (x8_2 < (l1.length : Int)) = true := decide_eq_true c15
                    clear c15
                    by_cases c16 : (rd l1 x8_2) = 1
                    · rw [if_pos c16] at H
                      have c16b0 : ((rd l1 x8_2) == 1) = true := beq_iff_eq.mpr c16
                      have c16b1 : ((rd l1 x8_2) != 1) = false := bne_eq_false_iff_eq.mpr c16
                      clear c16
                      have H' := Aside0.mk H
                      clear H
                      have p252 : 0 ≤ (x8_2 : Int) := of_decide_eq_true (by first | (with_reducible assumption) | assumption)
                      have q252 : x8_2 < (l1.length : Int) := of_decide_eq_true (by first | (with_reducible assumption) | assumption)
                      obtain ⟨ad252, e252, hx252_0⟩ := Kd.at_int HR1.out x8_2 p252 q252
                      cases e252
                      replace hx252_0 := (HB.out.cell (World.block_lt_of_cell? w _ hx252_0)).trans hx252_0
                      replace p252 := eq_true p252
                      replace q252 := eq_true q252
                      go_wp2
                      go_roundg k2
                      case measure => have := HJ3.out; have := HK2.out; omega
                      case rel => exact ⟨(x7_2), (wrap64 (x8_2 + 1)), (by first | rfl | (simp; done) | (simp [*]; done)), H', ⟨by have := HJ3.out; have := HK2.out; omega⟩, ⟨by (with_reducible repeat (first | apply Kd.R_alloc | apply Kd.R_drewN | apply Kd.R_drew)); exact HO_7.out⟩, ⟨by repeat (first | (with_reducible first | exact HB.out | apply below_alloc | apply pw_below_drewN | apply below_drew1) | exact HB.out)⟩⟩
                    · rw [if_neg c16] at H
                      have c16b0 : ((rd l1 x8_2) == 1) = false := beq_eq_false_iff_ne.mpr c16
                      have c16b1 : ((rd l1 x8_2) != 1) = true := bne_iff_ne.mpr c16
                      by_cases c17 : x7_2.length < 3518437208883
                      · rw [if_pos c17] at H
                        have LMc17 := Aside0.mk c17
                        clear c17
                        obtain ⟨y254, hy254⟩ : ∃ y_ : List (S31), y_ = (x7_2 ++ [(⟨(rd_T31 l0 x8_2).f0, (rd_T31 l0 x8_2).f1, (rd_T31 l0 x8_2).f2, (rd_T31 l0 x8_2).f3, (rd_T31 l0 x8_2).f4, (rd_T31 l0 x8_2).f5⟩ : S31)]) := ⟨_, rfl⟩
                        replace H : (stickfullaw12_TabsGone.l0 k2 l0 l1 a2 y254 (wrap64 (x8_2 + 1))) = some r := by first | (rw [hy254]; with_reducible exact H) | (have H2_ := (Option.bind_some _ _).symm.trans H; rw [hy254]; with_reducible exact H2_) | (have H2_ := (Option.bind_some _ _).symm.trans H; with_reducible exact H2_) | with_reducible exact H | (rw [hy254]; exact H) | exact H
                        have Ny254 := Aside0.mk hy254
                        clear hy254
                        have H' := Aside0.mk H
                        clear H
                        have p252 : 0 ≤ (x8_2 : Int) := of_decide_eq_true (by first | (with_reducible assumption) | assumption)
                        have q252 : x8_2 < (l1.length : Int) := of_decide_eq_true (by first | (with_reducible assumption) | assumption)
                        obtain ⟨ad252, e252, hx252_0⟩ := Kd.at_int HR1.out x8_2 p252 q252
                        cases e252
                        replace hx252_0 := (HB.out.cell (World.block_lt_of_cell? w _ hx252_0)).trans hx252_0
                        replace p252 := eq_true p252
                        replace q252 := eq_true q252
                        have p253 : 0 ≤ (x8_2 : Int) := of_decide_eq_true (by first | (with_reducible assumption) | assumption)
                        have q253 : x8_2 < (l0.length : Int) := of_decide_eq_true (by first | (with_reducible assumption) | assumption)
                        obtain ⟨ad253, e253, hx253_0, hx253_1, hx253_2, hx253_3, hx253_4, hx253_5⟩ := at_T31 HR0.out x8_2 p253 q253
                        cases e253
                        replace hx253_0 := (HB.out.cell (World.block_lt_of_cell? w _ hx253_0)).trans hx253_0
                        replace hx253_1 := (HB.out.cell (World.block_lt_of_cell? w _ hx253_1)).trans hx253_1
                        replace hx253_2 := (HB.out.cell (World.block_lt_of_cell? w _ hx253_2)).trans hx253_2
                        replace hx253_3 := (HB.out.cell (World.block_lt_of_cell? w _ hx253_3)).trans hx253_3
                        replace hx253_4 := (HB.out.cell (World.block_lt_of_cell? w _ hx253_4)).trans hx253_4
                        replace hx253_5 := (HB.out.cell (World.block_lt_of_cell? w _ hx253_5)).trans hx253_5
                        replace p253 := eq_true p253
                        replace q253 := eq_true q253
                        go_wp2_with (first | ((with_reducible refine gate_builtin (b := .append) (xs := #[.tmp 41, .tmp 46]) rfl ?_); (try (refine gate_guard (by rfl) ?_; dsimp only)); at_builtin; refine Kd.R_append k31 (w0 := w) w.heap.size rfl (.tmp 41) (.tmp 46) 22 31 (.agg #[(.int .u8 0), (.int .i64 0), (.int .i64 0), (.int .i64 0), (.bool false), (.bool false)]) 40 rfl Try.underlying22 info31 rfl (by decide) (by omega) u7 x7_2 (⟨(rd_T31 l0 x8_2).f0, (rd_T31 l0 x8_2).f1, (rd_T31 l0 x8_2).f2, (rd_T31 l0 x8_2).f3, (rd_T31 l0 x8_2).f4, (rd_T31 l0 x8_2).f5⟩ : S31) [.int .u8 ((rd_T31 l0 x8_2).f0), .int .i64 ((rd_T31 l0 x8_2).f1), .int .i64 ((rd_T31 l0 x8_2).f2), .int .i64 ((rd_T31 l0 x8_2).f3), .bool ((rd_T31 l0 x8_2).f4), .bool ((rd_T31 l0 x8_2).f5)] (fun _ => True) (fun _ => False) rfl rfl ?aP (fun _ hk => hk.elim) ?aF ?aO ?aB ?aS ?aL ?_; (case aP => exact k31_mkM _ _ _ (⟨(rd_T31 l0 x8_2).f0, (rd_T31 l0 x8_2).f1, (rd_T31 l0 x8_2).f2, (rd_T31 l0 x8_2).f3, (rd_T31 l0 x8_2).f4, (rd_T31 l0 x8_2).f5⟩ : S31)); (case aB => exact (bw HB)); (case aF => exact (fun _ _ => trivial)); (case aO => exact (rx HO_7)); (case aS => exact (below_size (bw HB))); (case aL => have := LMc17.out; omega); intro v255 w18 ho hb hg hat; rw [← Ny254.out] at ho; replace HB := Aside0.mk (hb); have HO256 := Aside0.mk (ho); clear HO_7; clear ho hb hg hat))
                        go_roundg k2
                        case measure => have := HJ3.out; have := HK2.out; omega
                        case rel => exact ⟨(y254), (wrap64 (x8_2 + 1)), (by first | rfl | (simp; done) | (simp [*]; done)), H', ⟨by have := HJ3.out; have := HK2.out; omega⟩, ⟨by (with_reducible repeat (first | apply Kd.R_alloc | apply Kd.R_drewN | apply Kd.R_drew)); exact HO256.out⟩, ⟨by repeat (first | (with_reducible first | exact HB.out | apply below_alloc | apply pw_below_drewN | apply below_drew1) | exact HB.out)⟩⟩
                      · rw [if_neg c17] at H
                        exact absurd H (by simp)
                  · rw [if_neg c15] at H
                    exact absurd H (by simp)
                · rw [if_neg c14] at H
                  exact absurd H (by simp)
            · rw [if_neg c9] at H
              have c9b0 : decide (x8_2 < (l0.length : Int)) = false := decide_eq_false c9
              clear c9
              replace H := Option.bind_eq_some_iff.mp H
              obtain ⟨⟨t257, t258⟩, A190, H⟩ := H
              replace H : ((tabs_Pens.f x7_2 ([] : List Int) a2).bind fun bt261 => (if t258 = 0 then (if bt261.2 = 0 then (if (t257.length : Int) = (wrap64 ((l0.length : Int) + 1)) then (stickfullaw12_TabsGone.j2 k2 l0 l1 t257 bt261.1 ((bt261.1.length : Int) != (wrap64 ((x7_2.length : Int) + 1)))) else (stickfullaw12_TabsGone.j2 k2 l0 l1 t257 bt261.1 true)) else (stickfullaw12_TabsGone.j2 k2 l0 l1 t257 bt261.1 true)) else (if bt261.2 = 0 then (if t258 = 2 then ((stickfullaw12_head.f k2).bind fun t265 => (some t265)) else (some false)) else ((stickfullaw12_head.f k2).bind fun t266 => (some t266))))) = some r := H
              have A19 := Aside0.mk A190
              clear A190
              replace H := Option.bind_eq_some_iff.mp H
              obtain ⟨⟨t261, t262⟩, A200, H⟩ := H
              replace H : (if t258 = 0 then (if t262 = 0 then (if (t257.length : Int) = (wrap64 ((l0.length : Int) + 1)) then (stickfullaw12_TabsGone.j2 k2 l0 l1 t257 t261 ((t261.length : Int) != (wrap64 ((x7_2.length : Int) + 1)))) else (stickfullaw12_TabsGone.j2 k2 l0 l1 t257 t261 true)) else (stickfullaw12_TabsGone.j2 k2 l0 l1 t257 t261 true)) else (if t262 = 0 then (if t258 = 2 then ((stickfullaw12_head.f k2).bind fun t265 => (some t265)) else (some false)) else ((stickfullaw12_head.f k2).bind fun t266 => (some t266)))) = some r := H
              have A20 := Aside0.mk A200
              clear A200
              by_cases c21 : t258 = 0
              · rw [if_pos c21] at H
                have c21b0 : (t258 == 0) = true := beq_iff_eq.mpr c21
                have c21b1 : (t258 != 0) = false := bne_eq_false_iff_eq.mpr c21
                clear c21
                have HC22 := Aside0.mk H
                clear H
                go_upto_region 13 with (first | ((with_reducible refine gate_callee (f := 8) rfl ?_); refine goesB (some 52) rfl rfl Try.func8 #[.slice A0 l0.length c0, .slice A1 l1.length c1, .int .i64 a2] rfl ?_; (with_reducible refine (tabs_Pens.calls _ _ l0 _ _ l1 a2 t257 t258 _ ?side1 ?side2 ?side3 ?side4 A19.out).mono ?_); (case side1 => repeat (first | exact (Kd.C_below HR0.out HB.out) | (with_reducible refine Kd.C_alloc ?_ _) | (with_reducible refine Kd.C_drewN ?_ _) | (with_reducible refine Kd.C_drew ?_))); (case side2 => exact HC0.out); (case side3 => repeat (first | exact (Kd.C_below HR1.out HB.out) | (with_reducible refine Kd.C_alloc ?_ _) | (with_reducible refine Kd.C_drewN ?_ _) | (with_reducible refine Kd.C_drew ?_))); (case side4 => exact HC1.out); rintro e w23 ⟨v259, rfl, ho0, hb⟩; refine ⟨_, rfl, ?_⟩; replace HO_7 := Aside0.mk (Kd.R_below (rx HO_7) hb); have HO260 := Aside0.mk (Kd.R_lower ho0 (below_size (bw HB))); replace HB := bh HB hb; (try clear hb); (try clear hb2); (try clear hk); (try clear hi); (try clear ho0); obtain ⟨Ao24, co24, eo24⟩ := Kd.R_slice HO_7.out; subst eo24) | ((with_reducible refine gate_callee (f := 8) rfl ?_); refine goesB (some 58) rfl rfl Try.func8 #[.slice Ao24 x7_2.length co24, .slice none 0 0, .int .i64 a2] rfl ?_; (refine (tabs_Pens.calls _ _ x7_2 _ _ ([] : List Int) a2 t261 t262 _ ?side1 ?side2 ?side3 ?side4 A20.out).mono ?_); (case side1 => repeat (first | exact (Kd.R_reads' HO_7.out).2.2 | (with_reducible refine Kd.C_alloc ?_ _) | (with_reducible refine Kd.C_drewN ?_ _) | (with_reducible refine Kd.C_drew ?_))); (case side2 => exact (Kd.R_reads' HO_7.out).2.1); (case side3 => exact Kd.C_nil _ _); (case side4 => exact Nat.le_refl _); rintro e w25 ⟨v263, rfl, ho0, hb⟩; refine ⟨_, rfl, ?_⟩; replace HO_7 := Aside0.mk (Kd.R_below (rx HO_7) hb); have HO264 := Aside0.mk (Kd.R_lower (Kd.R_new' ho0 (Kd.R_lt (rx HO260))) (below_size (bw HB))); replace HO260 := Aside0.mk (Kd.R_elder' (rx HO260) (Kd.R_base ho0) hb); replace HB := bh HB hb; (try clear hb); (try clear hb2); (try clear hk); (try clear hi); (try clear ho0)))
                (try simp only [Act.put, List.setIfInBounds_toArray, List.set_cons_zero, List.set_cons_succ])
                go_cut [89] (fun v89 wc => ∃ (kq : Nat) (x89_21 : Bool), v89 = .bool x89_21 ∧ Aside0 (stickfullaw12_TabsGone.j2 kq l0 l1 t257 t261 x89_21 = some r) ∧ Aside0 (kq ≤ k2) ∧ Aside0 (Kd.R (Kd.int .i64) 2 wc w.heap.size (fun k_ => some k_ ≠ (v263 : Value).ownBlock) v259 t257) ∧ Aside0 (Kd.R (Kd.int .i64) 2 wc w.heap.size (fun k_ => some k_ ≠ (v259 : Value).ownBlock) v263 t261) ∧ Aside0 (Below w.heap.size w wc))
                case first =>
                  have H := HC22.out
                  clear HC22
                  by_cases c26 : t262 = 0
                  · rw [if_pos c26] at H
                    have c26b0 : (t262 == 0) = true := beq_iff_eq.mpr c26
                    have c26b1 : (t262 != 0) = false := bne_eq_false_iff_eq.mpr c26
                    clear c26
                    (first | rw [c26b0] | (simp only [i64_w, i32_w]; rw [c26b0]) | skip)
                    by_cases c27 : (t257.length : Int) = (wrap64 ((l0.length : Int) + 1))
                    · rw [if_pos c27] at H
                      have c27b0 : ((t257.length : Int) == (wrap64 ((l0.length : Int) + 1))) = true := beq_iff_eq.mpr c27
                      have c27b1 : ((t257.length : Int) != (wrap64 ((l0.length : Int) + 1))) = false := bne_eq_false_iff_eq.mpr c27
                      clear c27
                      have H' := Aside0.mk H
                      clear H
                      obtain ⟨Ao28, co28, eo28⟩ := Kd.R_slice HO260.out
                      subst eo28
                      obtain ⟨Ao29, co29, eo29⟩ := Kd.R_slice HO264.out
                      subst eo29
                      go_wp2
                      go_meet
                      case rel => exact ⟨_, (((t261.length : Int) != (wrap64 ((x7_2.length : Int) + 1)))), (by first | rfl | (simp; done) | (simp [*]; done)), H', ⟨by have := HJ3.out; have := HK2.out; first | omega | exact Nat.le_refl _⟩, ⟨by (with_reducible repeat (first | apply Kd.R_alloc | apply Kd.R_drewN | apply Kd.R_drew)); exact Kd.R_mono HO260.out (fun _ hk => hk.2)⟩, ⟨by (with_reducible repeat (first | apply Kd.R_alloc | apply Kd.R_drewN | apply Kd.R_drew)); exact Kd.R_mono HO264.out (fun _ hk => hk.2)⟩, ⟨by repeat (first | (with_reducible first | exact HB.out | apply below_alloc | apply pw_below_drewN | apply below_drew1) | exact HB.out)⟩⟩
                    · rw [if_neg c27] at H
                      have c27b0 : ((t257.length : Int) == (wrap64 ((l0.length : Int) + 1))) = false := beq_eq_false_iff_ne.mpr c27
                      have c27b1 : ((t257.length : Int) != (wrap64 ((l0.length : Int) + 1))) = true := bne_iff_ne.mpr c27
                      have H' := Aside0.mk H
                      clear H
                      obtain ⟨Ao30, co30, eo30⟩ := Kd.R_slice HO260.out
                      subst eo30
                      go_wp2
                      go_meet
                      case rel => exact ⟨_, (true), (by first | rfl | (simp; done) | (simp [*]; done)), H', ⟨by have := HJ3.out; have := HK2.out; first | omega | exact Nat.le_refl _⟩, ⟨by (with_reducible repeat (first | apply Kd.R_alloc | apply Kd.R_drewN | apply Kd.R_drew)); exact Kd.R_mono HO260.out (fun _ hk => hk.2)⟩, ⟨by (with_reducible repeat (first | apply Kd.R_alloc | apply Kd.R_drewN | apply Kd.R_drew)); exact Kd.R_mono HO264.out (fun _ hk => hk.2)⟩, ⟨by repeat (first | (with_reducible first | exact HB.out | apply below_alloc | apply pw_below_drewN | apply below_drew1) | exact HB.out)⟩⟩
                  · rw [if_neg c26] at H
                    have c26b0 : (t262 == 0) = false := beq_eq_false_iff_ne.mpr c26
                    have c26b1 : (t262 != 0) = true := bne_iff_ne.mpr c26
                    (first | rw [c26b0] | (simp only [i64_w, i32_w]; rw [c26b0]) | skip)
                    have H' := Aside0.mk H
                    clear H
                    go_wp2
                    go_meet
                    case rel => exact ⟨_, (true), (by first | rfl | (simp; done) | (simp [*]; done)), H', ⟨by have := HJ3.out; have := HK2.out; first | omega | exact Nat.le_refl _⟩, ⟨by (with_reducible repeat (first | apply Kd.R_alloc | apply Kd.R_drewN | apply Kd.R_drew)); exact Kd.R_mono HO260.out (fun _ hk => hk.2)⟩, ⟨by (with_reducible repeat (first | apply Kd.R_alloc | apply Kd.R_drewN | apply Kd.R_drew)); exact Kd.R_mono HO264.out (fun _ hk => hk.2)⟩, ⟨by repeat (first | (with_reducible first | exact HB.out | apply below_alloc | apply pw_below_drewN | apply below_drew1) | exact HB.out)⟩⟩
                case rest =>
                  clear HC22
                  try clear c1
                  try clear c2
                  try clear p2
                  try clear q2
                  try clear hx2
                  try clear c5
                  try clear c5b0
                  try clear c5b1
                  try clear c6
                  try clear p6
                  try clear c7
                  try clear c8
                  try clear c9
                  try clear c9b0
                  try clear c10
                  try clear c10b0
                  try clear c11
                  try clear c11b0
                  try clear c12
                  try clear c14
                  try clear c14b0
                  try clear c15
                  try clear c15b0
                  try clear c16
                  try clear c16b0
                  try clear c16b1
                  try clear c17
                  try clear c21
                  try clear c21b0
                  try clear c21b1
                  try clear p24
                  try clear q24
                  try clear hx24
                  try clear p25
                  try clear q25
                  try clear hx25
                  try clear c26
                  try clear c26b0
                  try clear c26b1
                  try clear c27
                  try clear c27b0
                  try clear c27b1
                  try clear hx248_0
                  try clear hx248_1
                  try clear hx248_2
                  try clear hx248_3
                  try clear hx248_4
                  try clear hx248_5
                  try clear hx252_0
                  try clear hx253_0
                  try clear hx253_1
                  try clear hx253_2
                  try clear hx253_3
                  try clear hx253_4
                  try clear hx253_5
                  try clear p2
                  try clear p248
                  try clear p252
                  try clear p253
                  try clear q248
                  try clear q252
                  try clear q253
                  obtain ⟨kq, x89_21, rfl, HA, HJ21, HO_9, HO_11, HB⟩ := hcut
                  cases kq with
                  | zero => exact absurd HA.out (by simp [stickfullaw12_TabsGone.j2])
                  | succ kj21 =>
                    have H := HA.out
                    clear HA
                    simp only [stickfullaw12_TabsGone.j2] at H
                    by_cases c31 : x89_21 = true
                    · subst c31
                      have H1 : (some false) = some r := by rw [if_pos rfl] at H; exact H
                      clear H
                      have H := H1
                      clear H1
                      exact absurd ((Option.some.inj H).trans HR_.out) (by decide)
                    · replace c31 := Bool.eq_false_iff.mpr c31
                      subst c31
                      have H1 : (stickfullaw12_TabsGone.l1 kj21 l0 l1 t257 t261 0 0) = some r := by rw [if_neg (show ¬ (false = true) by decide)] at H; exact H
                      clear H
                      have H := H1
                      clear H1
                      have H' := Aside0.mk H
                      clear H
                      go_wp2
                      go_loopg [13, 14] kj21 (fun kq v13 v14 w' => ∃ (x13_4 x14_4 : Int), v13 = .int .i64 x13_4 ∧ v14 = .int .i64 x14_4 ∧ Aside0 (stickfullaw12_TabsGone.l1 kq l0 l1 t257 t261 x13_4 x14_4 = some r) ∧ Aside0 (kq ≤ kj21) ∧ Aside0 (Kd.R (Kd.int .i64) 2 w' w.heap.size (fun k_ => some k_ ≠ (v263 : Value).ownBlock) v259 t257) ∧ Aside0 (Kd.R (Kd.int .i64) 2 w' w.heap.size (fun k_ => some k_ ≠ (v259 : Value).ownBlock) v263 t261) ∧ Aside0 (Below w.heap.size w w'))
                      case atStart => exact ⟨(0), (0), (by first | rfl | (simp; done) | (simp [*]; done)), (by first | rfl | (simp; done) | (simp [*]; done)), H', ⟨Nat.le_refl _⟩, ⟨by (with_reducible repeat (first | apply Kd.R_alloc | apply Kd.R_drewN | apply Kd.R_drew)); exact HO_9.out⟩, ⟨by (with_reducible repeat (first | apply Kd.R_alloc | apply Kd.R_drewN | apply Kd.R_drew)); exact HO_11.out⟩, ⟨by repeat (first | (with_reducible first | exact HB.out | apply below_alloc | apply pw_below_drewN | apply below_drew1) | exact HB.out)⟩⟩
                      case round =>
                        clear H'
                        try clear c1
                        try clear c2
                        try clear p2
                        try clear q2
                        try clear hx2
                        try clear c3
                        try clear c5
                        try clear c5b0
                        try clear c5b1
                        try clear c6
                        try clear p6
                        try clear c7
                        try clear c8
                        try clear c9
                        try clear c9b0
                        try clear c10
                        try clear c10b0
                        try clear c11
                        try clear c11b0
                        try clear c12
                        try clear c14
                        try clear c14b0
                        try clear c15
                        try clear c15b0
                        try clear c16
                        try clear c16b0
                        try clear c16b1
                        try clear c17
                        try clear c21
                        try clear c21b0
                        try clear c21b1
                        try clear p24
                        try clear q24
                        try clear hx24
                        try clear p25
                        try clear q25
                        try clear hx25
                        try clear c26
                        try clear c26b0
                        try clear c26b1
                        try clear c27
                        try clear c27b0
                        try clear c27b1
                        try clear c31
                        try clear hx248_0
                        try clear hx248_1
                        try clear hx248_2
                        try clear hx248_3
                        try clear hx248_4
                        try clear hx248_5
                        try clear hx252_0
                        try clear hx253_0
                        try clear hx253_1
                        try clear hx253_2
                        try clear hx253_3
                        try clear hx253_4
                        try clear hx253_5
                        try clear p2
                        try clear p24
                        try clear p248
                        try clear p25
                        try clear p252
                        try clear p253
                        try clear p6
                        try clear q2
                        try clear q24
                        try clear q248
                        try clear q25
                        try clear q252
                        try clear q253
                        obtain ⟨x13_4, x14_4, rfl, rfl, HA, HK4, HO_9, HO_11, HB⟩ := hrel
                        cases gk with
                        | zero => exact absurd HA.out (by simp [stickfullaw12_TabsGone.l1])
                        | succ k4 =>
                          have H := HA.out
                          clear HA
                          simp only [stickfullaw12_TabsGone.l1] at H
                          by_cases c32 : x14_4 < (l0.length : Int)
                          · rw [if_pos c32] at H
                            have c32b0 : decide (x14_4 < (l0.length : Int)) = true := decide_eq_true c32
                            clear c32
                            have HC33 := Aside0.mk H
                            clear H
                            go_upto_region 19 with (fail)
                            go_cut [106] (fun v106 wc => ∃ (kq : Nat) (x106_32 : Bool), v106 = .bool x106_32 ∧ Aside0 (stickfullaw12_TabsGone.j4 kq l0 l1 t257 t261 x13_4 x14_4 x106_32 = some r) ∧ Aside0 (kq ≤ k4) ∧ Aside0 (Kd.R (Kd.int .i64) 2 wc w.heap.size (fun k_ => some k_ ≠ (v263 : Value).ownBlock) v259 t257) ∧ Aside0 (Kd.R (Kd.int .i64) 2 wc w.heap.size (fun k_ => some k_ ≠ (v259 : Value).ownBlock) v263 t261) ∧ Aside0 (Below w.heap.size w wc))
                            case first =>
                              have H := HC33.out
                              clear HC33
                              by_cases c34 : x14_4 ≥ (l1.length : Int)
                              · rw [if_pos c34] at H
                                have c34b0 : decide ((l1.length : Int) ≤ x14_4) = true := decide_eq_true c34
                                clear c34
                                (first | rw [c34b0] | (simp only [i64_w, i32_w]; rw [c34b0]) | skip)
                                have H' := Aside0.mk H
                                clear H
                                go_wp2
                                go_meet
                                case rel => exact ⟨_, (true), (by first | rfl | (simp; done) | (simp [*]; done)), H', ⟨by have := HJ3.out; have := HK2.out; have := HJ21.out; have := HK4.out; first | omega | exact Nat.le_refl _⟩, ⟨by (with_reducible repeat (first | apply Kd.R_alloc | apply Kd.R_drewN | apply Kd.R_drew)); exact HO_9.out⟩, ⟨by (with_reducible repeat (first | apply Kd.R_alloc | apply Kd.R_drewN | apply Kd.R_drew)); exact HO_11.out⟩, ⟨by repeat (first | (with_reducible first | exact HB.out | apply below_alloc | apply pw_below_drewN | apply below_drew1) | exact HB.out)⟩⟩
                              · rw [if_neg c34] at H
                                have c34b0 : decide ((l1.length : Int) ≤ x14_4) = false := decide_eq_false c34
                                clear c34
                                (first | rw [c34b0] | (simp only [i64_w, i32_w]; rw [c34b0]) | skip)
                                by_cases c35 : 0 ≤ x14_4
                                · rw [if_pos c35] at H
                                  have c35b0 : decide (0 ≤ x14_4) = true := decide_eq_true c35
                                  clear c35
                                  by_cases c36 : x14_4 < (l1.length : Int)
                                  · rw [if_pos c36] at H
                                    have c36b0 : decide (x14_4 < (l1.length : Int)) = true := decide_eq_true c36
                                    clear c36
                                    have H' := Aside0.mk H
                                    clear H
                                    have p270 : 0 ≤ (x14_4 : Int) := of_decide_eq_true (by first | (with_reducible assumption) | assumption)
                                    have q270 : x14_4 < (l1.length : Int) := of_decide_eq_true (by first | (with_reducible assumption) | assumption)
                                    obtain ⟨ad270, e270, hx270_0⟩ := Kd.at_int HR1.out x14_4 p270 q270
                                    cases e270
                                    replace hx270_0 := (HB.out.cell (World.block_lt_of_cell? w _ hx270_0)).trans hx270_0
                                    replace p270 := eq_true p270
                                    replace q270 := eq_true q270
                                    go_wp2
                                    go_meet
                                    case rel => exact ⟨_, (((rd l1 x14_4) != 1)), (by first | rfl | (simp; done) | (simp [*]; done)), H', ⟨by have := HJ3.out; have := HK2.out; have := HJ21.out; have := HK4.out; first | omega | exact Nat.le_refl _⟩, ⟨by (with_reducible repeat (first | apply Kd.R_alloc | apply Kd.R_drewN | apply Kd.R_drew)); exact HO_9.out⟩, ⟨by (with_reducible repeat (first | apply Kd.R_alloc | apply Kd.R_drewN | apply Kd.R_drew)); exact HO_11.out⟩, ⟨by repeat (first | (with_reducible first | exact HB.out | apply below_alloc | apply pw_below_drewN | apply below_drew1) | exact HB.out)⟩⟩
                                  · rw [if_neg c36] at H
                                    exact absurd H (by simp)
                                · rw [if_neg c35] at H
                                  exact absurd H (by simp)
                            case rest =>
                              clear HC33
                              try clear c1
                              try clear c2
                              try clear p2
                              try clear q2
                              try clear hx2
                              try clear c3
                              try clear c5
                              try clear c5b0
                              try clear c5b1
                              try clear c6
                              try clear p6
                              try clear c7
                              try clear c8
                              try clear c9
                              try clear c9b0
                              try clear c10
                              try clear c10b0
                              try clear c11
                              try clear c11b0
                              try clear c12
                              try clear c14
                              try clear c14b0
                              try clear c15
                              try clear c15b0
                              try clear c16
                              try clear c16b0
                              try clear c16b1
                              try clear c17
                              try clear c21
                              try clear c21b0
                              try clear c21b1
                              try clear p24
                              try clear q24
                              try clear hx24
                              try clear p25
                              try clear q25
                              try clear hx25
                              try clear c26
                              try clear c26b0
                              try clear c26b1
                              try clear c27
                              try clear c27b0
                              try clear c27b1
                              try clear p27
                              try clear q27
                              try clear hx27
                              try clear c31
                              try clear c32
                              try clear c32b0
                              try clear c34
                              try clear c34b0
                              try clear c35
                              try clear c35b0
                              try clear c36
                              try clear c36b0
                              try clear hx248_0
                              try clear hx248_1
                              try clear hx248_2
                              try clear hx248_3
                              try clear hx248_4
                              try clear hx248_5
                              try clear hx252_0
                              try clear hx253_0
                              try clear hx253_1
                              try clear hx253_2
                              try clear hx253_3
                              try clear hx253_4
                              try clear hx253_5
                              try clear hx270_0
                              try clear p2
                              try clear p24
                              try clear p248
                              try clear p25
                              try clear p252
                              try clear p253
                              try clear p270
                              try clear p6
                              try clear q2
                              try clear q24
                              try clear q248
                              try clear q25
                              try clear q252
                              try clear q253
                              try clear q270
                              obtain ⟨kq, x106_32, rfl, HA, HJ32, HO_9, HO_11, HB⟩ := hcut
                              cases kq with
                              | zero => exact absurd HA.out (by simp [stickfullaw12_TabsGone.j4])
                              | succ kj32 =>
                                have H := HA.out
                                clear HA
                                simp only [stickfullaw12_TabsGone.j4] at H
                                by_cases c37 : x106_32 = true
                                · subst c37
                                  have H1 : (if 0 ≤ (wrap64 (x14_4 + 1)) then (if (wrap64 (x14_4 + 1)) < (t257.length : Int) then (if 0 ≤ (wrap64 (x13_4 + 1)) then (if (wrap64 (x13_4 + 1)) < (t261.length : Int) then (if (rd t257 (wrap64 (x14_4 + 1))) = (rd t261 (wrap64 (x13_4 + 1))) then (stickfullaw12_TabsGone.l1 kj32 l0 l1 t257 t261 (wrap64 (x13_4 + 1)) (wrap64 (x14_4 + 1))) else (some false)) else (none)) else (none)) else (none)) else (none)) = some r := by rw [if_pos rfl] at H; exact H
                                  clear H
                                  have H := H1
                                  clear H1
                                  obtain ⟨ji38, hji38⟩ : ∃ j_ : Int, (wrap64 (x14_4 + 1)) = j_ := ⟨_, rfl⟩
                                  replace H : (if 0 ≤ (ji38) then (if (ji38) < (t257.length : Int) then (if 0 ≤ (wrap64 (x13_4 + 1)) then (if (wrap64 (x13_4 + 1)) < (t261.length : Int) then (if (rd t257 (ji38)) = (rd t261 (wrap64 (x13_4 + 1))) then (stickfullaw12_TabsGone.l1 kj32 l0 l1 t257 t261 (wrap64 (x13_4 + 1)) ji38) else (some false)) else (none)) else (none)) else (none)) else (none)) = some r := by first | (rw [hji38] at H; exact H) | (simp only [hji38] at H ⊢; exact H)
                                  have hji38w : (IntKind.i64.wrap (x14_4 + 1)) = ji38 := (i64_w _).trans hji38
                                  by_cases c39 : 0 ≤ (ji38)
                                  · rw [if_pos c39] at H
                                    have c39b0 : decide (0 ≤ (ji38)) = true := decide_eq_true c39
                                    clear c39
                                    by_cases c40 : (ji38) < (t257.length : Int)
                                    · rw [if_pos c40] at H
                                      have c40b0 : decide ((ji38) < (t257.length : Int)) = true := decide_eq_true c40
                                      clear c40
                                      obtain ⟨ji41, hji41⟩ : ∃ j_ : Int, (wrap64 (x13_4 + 1)) = j_ := ⟨_, rfl⟩
                                      replace H : (if 0 ≤ (ji41) then (if (ji41) < (t261.length : Int) then (if (rd t257 (ji38)) = (rd t261 (ji41)) then (stickfullaw12_TabsGone.l1 kj32 l0 l1 t257 t261 ji41 ji38) else (some false)) else (none)) else (none)) = some r := by first | (rw [hji41] at H; exact H) | (simp only [hji41] at H ⊢; exact H)
                                      have hji41w : (IntKind.i64.wrap (x13_4 + 1)) = ji41 := (i64_w _).trans hji41
                                      by_cases c42 : 0 ≤ (ji41)
                                      · rw [if_pos c42] at H
                                        have c42b0 : decide (0 ≤ (ji41)) = true := decide_eq_true c42
                                        clear c42
                                        by_cases c43 : (ji41) < (t261.length : Int)
                                        · rw [if_pos c43] at H
                                          have c43b0 : decide ((ji41) < (t261.length : Int)) = true := decide_eq_true c43
                                          clear c43
                                          by_cases c44 : (rd t257 (ji38)) = (rd t261 (ji41))
                                          · rw [if_pos c44] at H
                                            have c44b0 : ((rd t257 (ji38)) == (rd t261 (ji41))) = true := beq_iff_eq.mpr c44
                                            have c44b1 : ((rd t257 (ji38)) != (rd t261 (ji41))) = false := bne_eq_false_iff_eq.mpr c44
                                            clear c44
                                            have H' := Aside0.mk H
                                            clear H
                                            try go_wp2
                                            replace HO_9 := Aside0.mk (Kd.R_drew HO_9.out)
                                            replace HO_11 := Aside0.mk (Kd.R_drew HO_11.out)
                                            replace HB := Aside0.mk (below_drew1 HB.out)
                                            obtain ⟨Ao46, co46, eo46⟩ := Kd.R_slice HO_9.out
                                            (first | subst eo46 | (injection eo46 with f1_ f2_ f3_; have f4_ := f1_.symm; have f5_ := f3_.symm; clear f1_ f2_ f3_; subst f4_; subst f5_))
                                            have p271 : 0 ≤ ((ji38) : Int) := of_decide_eq_true (by first | (with_reducible assumption) | assumption)
                                            have q271 : (ji38) < (t257.length : Int) := of_decide_eq_true (by first | (with_reducible assumption) | assumption)
                                            obtain ⟨ad271, e271, hx271_0⟩ := Kd.at_int (Kd.R_reads' HO_9.out).2.2 (ji38) p271 q271
                                            cases e271
                                            replace p271 := eq_true p271
                                            replace q271 := eq_true q271
                                            obtain ⟨Ao47, co47, eo47⟩ := Kd.R_slice HO_11.out
                                            (first | subst eo47 | (injection eo47 with f1_ f2_ f3_; have f4_ := f1_.symm; have f5_ := f3_.symm; clear f1_ f2_ f3_; subst f4_; subst f5_))
                                            have p272 : 0 ≤ ((ji41) : Int) := of_decide_eq_true (by first | (with_reducible assumption) | assumption)
                                            have q272 : (ji41) < (t261.length : Int) := of_decide_eq_true (by first | (with_reducible assumption) | assumption)
                                            obtain ⟨ad272, e272, hx272_0⟩ := Kd.at_int (Kd.R_reads' HO_11.out).2.2 (ji41) p272 q272
                                            cases e272
                                            replace p272 := eq_true p272
                                            replace q272 := eq_true q272
                                            refine start_ (n := 10) (S := fun w' => w'.cell? (ad271.add ((ji38)).toNat) = some (.int .i64 (rd t257 (ji38))) ∧ w'.cell? (ad272.add ((ji41)).toNat) = some (.int .i64 (rd t261 (ji41)))) (ds := []) #[false, false, false, false, false, false, false, false, false, false] (by kernel_rfl) rfl rfl ⟨hx271_0, hx272_0⟩ (fun hHeld => ?_); refine with_tabW stickfullaw12_TabsGone.tab21 stickfullaw12_TabsGone.bits21 (fun HT_ HW_ => ?_)
                                            generalize wc.drew = w45 at HO_9 HO_11 HB hx271_0 hx272_0 hHeld ⊢
                                            refine pure_ (i := 0) (N := some 109) (v := ?_) (a' := ?_) #[true, false, false, false, false, false, false, false, false, false] rfl rfl (any_of HT_.out (by kernel_rfl)) (fun _ _ _ h => h) (Or.inl ⟨by rfl, ?_⟩) ?_ ?_
                                            rotate_left
                                            · intro w'
                                              go_simp
                                              with_reducible rfl
                                            rotate_left
                                            · simp only [Act.put, List.setIfInBounds_toArray, List.set_cons_zero, List.set_cons_succ, i64_w, i32_w]
                                              rfl
                                            refine pure_ (i := 1) (N := some 110) (v := ?_) (a' := ?_) #[true, true, false, false, false, false, false, false, false, false] rfl rfl (any_of HT_.out (by kernel_rfl)) (fun _ _ _ h => h) (Or.inl ⟨by rfl, ?_⟩) ?_ ?_
                                            rotate_left
                                            · intro w'
                                              go_simp
                                              with_reducible rfl
                                            rotate_left
                                            · simp only [Act.put, List.setIfInBounds_toArray, List.set_cons_zero, List.set_cons_succ, i64_w, i32_w]
                                              rfl
                                            refine pure_ (i := 2) (N := some 111) (v := ?_) (a' := ?_) #[true, true, true, false, false, false, false, false, false, false] rfl rfl (any_of HT_.out (by kernel_rfl)) (fun _ _ _ h => h) (Or.inl ⟨by rfl, ?_⟩) ?_ ?_
                                            rotate_left
                                            · intro w'
                                              go_simp
                                              with_reducible rfl
                                            rotate_left
                                            · simp only [Act.put, List.setIfInBounds_toArray, List.set_cons_zero, List.set_cons_succ, i64_w, i32_w]
                                              rfl
                                            refine pure_ (i := 3) (N := some 112) (v := ?_) (a' := ?_) #[true, true, true, true, false, false, false, false, false, false] rfl rfl (any_of HT_.out (by kernel_rfl)) (fun _ _ _ h => h) (Or.inl ⟨by rfl, ?_⟩) ?_ ?_
                                            rotate_left
                                            · intro w'
                                              go_simp
                                              with_reducible rfl
                                            rotate_left
                                            · simp only [Act.put, List.setIfInBounds_toArray, List.set_cons_zero, List.set_cons_succ, i64_w, i32_w]
                                              rfl
                                            refine pure_ (i := 5) (N := some 114) (v := ?_) (a' := ?_) #[true, true, true, true, false, true, false, false, false, false] rfl rfl (any_of HT_.out (by kernel_rfl)) (fun _ _ _ h => h) (Or.inl ⟨by rfl, ?_⟩) ?_ ?_
                                            rotate_left
                                            · intro w'
                                              go_simp
                                              with_reducible rfl
                                            rotate_left
                                            · simp only [Act.put, List.setIfInBounds_toArray, List.set_cons_zero, List.set_cons_succ, i64_w, i32_w]
                                              rfl
                                            refine pure_ (i := 6) (N := some 115) (v := ?_) (a' := ?_) #[true, true, true, true, false, true, true, false, false, false] rfl rfl (any_of HT_.out (by kernel_rfl)) (fun _ _ _ h => h) (Or.inl ⟨by rfl, ?_⟩) ?_ ?_
                                            rotate_left
                                            · intro w'
                                              go_simp
                                              with_reducible rfl
                                            rotate_left
                                            · simp only [Act.put, List.setIfInBounds_toArray, List.set_cons_zero, List.set_cons_succ, i64_w, i32_w]
                                              rfl
                                            refine pure_ (i := 7) (N := some 116) (v := ?_) (a' := ?_) #[true, true, true, true, false, true, true, true, false, false] rfl rfl (any_of HT_.out (by kernel_rfl)) (fun _ _ _ h => h) (Or.inl ⟨by rfl, ?_⟩) ?_ ?_
                                            rotate_left
                                            · intro w'
                                              go_simp
                                              with_reducible rfl
                                            rotate_left
                                            · simp only [Act.put, List.setIfInBounds_toArray, List.set_cons_zero, List.set_cons_succ, i64_w, i32_w]
                                              rfl
                                            refine take_ (i := 4) (N := some 113) (v := ?_) (a' := ?_) #[true, true, true, true, true, true, true, true, false, false] rfl rfl (take_ofW HT_.out HW_.out (by kernel_rfl)) (fun _ _ _ h => h) (Or.inl ⟨by rfl, ?_⟩) hHeld ?_ ?_
                                            rotate_left
                                            · rintro w' ⟨s0, s1⟩
                                              go_simp
                                              with_reducible rfl
                                            rotate_left
                                            · simp only [Act.put, List.setIfInBounds_toArray, List.set_cons_zero, List.set_cons_succ, i64_w, i32_w]
                                              rfl
                                            refine take_ (i := 8) (N := some 117) (v := ?_) (a' := ?_) #[true, true, true, true, true, true, true, true, true, false] rfl rfl (take_ofW HT_.out HW_.out (by kernel_rfl)) (fun _ _ _ h => h) (Or.inl ⟨by rfl, ?_⟩) hHeld ?_ ?_
                                            rotate_left
                                            · rintro w' ⟨s0, s1⟩
                                              go_simp
                                              with_reducible rfl
                                            rotate_left
                                            · simp only [Act.put, List.setIfInBounds_toArray, List.set_cons_zero, List.set_cons_succ, i64_w, i32_w]
                                              rfl
                                            refine pure_ (i := 9) (N := some 118) (v := ?_) (a' := ?_) #[true, true, true, true, true, true, true, true, true, true] rfl rfl (any_of HT_.out (by kernel_rfl)) (fun _ _ _ h => h) (Or.inl ⟨by rfl, ?_⟩) ?_ ?_
                                            rotate_left
                                            · intro w'
                                              go_simp
                                              with_reducible rfl
                                            rotate_left
                                            · simp only [Act.put, List.setIfInBounds_toArray, List.set_cons_zero, List.set_cons_succ, i64_w, i32_w]
                                              rfl
                                            refine done_ (done_of HT_.out (by kernel_rfl)) ?_
                                            try go_wp2
                                            go_roundg kj32
                                            case measure => have := HJ3.out; have := HK2.out; have := HJ21.out; have := HK4.out; have := HJ32.out; omega
                                            case rel => exact ⟨(ji41), (ji38), (by first | rfl | (simp; done) | (simp only [← hji41] <;> (first | rfl | simp)) | (simp [*]; done)), (by first | rfl | (simp; done) | (simp only [← hji38] <;> (first | rfl | simp)) | (simp [*]; done)), H', ⟨by have := HJ3.out; have := HK2.out; have := HJ21.out; have := HK4.out; have := HJ32.out; omega⟩, ⟨by (with_reducible repeat (first | apply Kd.R_alloc | apply Kd.R_drewN | apply Kd.R_drew)); exact HO_9.out⟩, ⟨by (with_reducible repeat (first | apply Kd.R_alloc | apply Kd.R_drewN | apply Kd.R_drew)); exact HO_11.out⟩, ⟨by repeat (first | (with_reducible first | exact HB.out | apply below_alloc | apply pw_below_drewN | apply below_drew1) | exact HB.out)⟩⟩
                                          · rw [if_neg c44] at H
                                            have c44b0 : ((rd t257 (ji38)) == (rd t261 (ji41))) = false := beq_eq_false_iff_ne.mpr c44
                                            have c44b1 : ((rd t257 (ji38)) != (rd t261 (ji41))) = true := bne_iff_ne.mpr c44
                                            exact absurd ((Option.some.inj H).trans HR_.out) (by decide)
                                        · rw [if_neg c43] at H
                                          exact absurd H (by simp)
                                      · rw [if_neg c42] at H
                                        exact absurd H (by simp)
                                    · rw [if_neg c40] at H
                                      exact absurd H (by simp)
                                  · rw [if_neg c39] at H
                                    exact absurd H (by simp)
                                · replace c37 := Bool.eq_false_iff.mpr c37
                                  subst c37
                                  have H1 : (if 0 ≤ (wrap64 (x14_4 + 1)) then (if (wrap64 (x14_4 + 1)) < (t257.length : Int) then (if 0 ≤ x13_4 then (if x13_4 < (t261.length : Int) then (if (rd t257 (wrap64 (x14_4 + 1))) = (rd t261 x13_4) then (stickfullaw12_TabsGone.l1 kj32 l0 l1 t257 t261 x13_4 (wrap64 (x14_4 + 1))) else (some false)) else (none)) else (none)) else (none)) else (none)) = some r := by rw [if_neg (show ¬ (false = true) by decide)] at H; exact H
                                  clear H
                                  have H := H1
                                  clear H1
                                  obtain ⟨ji48, hji48⟩ : ∃ j_ : Int, (wrap64 (x14_4 + 1)) = j_ := ⟨_, rfl⟩
                                  replace H : (if 0 ≤ (ji48) then (if (ji48) < (t257.length : Int) then (if 0 ≤ x13_4 then (if x13_4 < (t261.length : Int) then (if (rd t257 (ji48)) = (rd t261 x13_4) then (stickfullaw12_TabsGone.l1 kj32 l0 l1 t257 t261 x13_4 ji48) else (some false)) else (none)) else (none)) else (none)) else (none)) = some r := by first | (rw [hji48] at H; exact H) | (simp only [hji48] at H ⊢; exact H)
                                  have hji48w : (IntKind.i64.wrap (x14_4 + 1)) = ji48 := (i64_w _).trans hji48
                                  by_cases c49 : 0 ≤ (ji48)
                                  · rw [if_pos c49] at H
                                    have c49b0 : decide (0 ≤ (ji48)) = true := decide_eq_true c49
                                    clear c49
                                    by_cases c50 : (ji48) < (t257.length : Int)
                                    · rw [if_pos c50] at H
                                      have c50b0 : decide ((ji48) < (t257.length : Int)) = true := decide_eq_true c50
                                      clear c50
                                      by_cases c51 : 0 ≤ x13_4
                                      · rw [if_pos c51] at H
                                        have c51b0 : decide (0 ≤ x13_4) = true := decide_eq_true c51
                                        clear c51
                                        by_cases c52 : x13_4 < (t261.length : Int)
                                        · rw [if_pos c52] at H
                                          have c52b0 : decide (x13_4 < (t261.length : Int)) = true := decide_eq_true c52
                                          clear c52
                                          by_cases c53 : (rd t257 (ji48)) = (rd t261 x13_4)
                                          · rw [if_pos c53] at H
                                            have c53b0 : ((rd t257 (ji48)) == (rd t261 x13_4)) = true := beq_iff_eq.mpr c53
                                            have c53b1 : ((rd t257 (ji48)) != (rd t261 x13_4)) = false := bne_eq_false_iff_eq.mpr c53
                                            clear c53
                                            have H' := Aside0.mk H
                                            clear H
                                            try go_wp2
                                            replace HO_9 := Aside0.mk (Kd.R_drew HO_9.out)
                                            replace HO_11 := Aside0.mk (Kd.R_drew HO_11.out)
                                            replace HB := Aside0.mk (below_drew1 HB.out)
                                            obtain ⟨Ao55, co55, eo55⟩ := Kd.R_slice HO_9.out
                                            (first | subst eo55 | (injection eo55 with f1_ f2_ f3_; have f4_ := f1_.symm; have f5_ := f3_.symm; clear f1_ f2_ f3_; subst f4_; subst f5_))
                                            have p273 : 0 ≤ ((ji48) : Int) := of_decide_eq_true (by first | (with_reducible assumption) | assumption)
                                            have q273 : (ji48) < (t257.length : Int) := of_decide_eq_true (by first | (with_reducible assumption) | assumption)
                                            obtain ⟨ad273, e273, hx273_0⟩ := Kd.at_int (Kd.R_reads' HO_9.out).2.2 (ji48) p273 q273
                                            cases e273
                                            replace p273 := eq_true p273
                                            replace q273 := eq_true q273
                                            obtain ⟨Ao56, co56, eo56⟩ := Kd.R_slice HO_11.out
                                            (first | subst eo56 | (injection eo56 with f1_ f2_ f3_; have f4_ := f1_.symm; have f5_ := f3_.symm; clear f1_ f2_ f3_; subst f4_; subst f5_))
                                            have p274 : 0 ≤ (x13_4 : Int) := of_decide_eq_true (by first | (with_reducible assumption) | assumption)
                                            have q274 : x13_4 < (t261.length : Int) := of_decide_eq_true (by first | (with_reducible assumption) | assumption)
                                            obtain ⟨ad274, e274, hx274_0⟩ := Kd.at_int (Kd.R_reads' HO_11.out).2.2 x13_4 p274 q274
                                            cases e274
                                            replace p274 := eq_true p274
                                            replace q274 := eq_true q274
                                            refine start_ (n := 10) (S := fun w' => w'.cell? (ad273.add ((ji48)).toNat) = some (.int .i64 (rd t257 (ji48))) ∧ w'.cell? (ad274.add (x13_4).toNat) = some (.int .i64 (rd t261 x13_4))) (ds := []) #[false, false, false, false, false, false, false, false, false, false] (by kernel_rfl) rfl rfl ⟨hx273_0, hx274_0⟩ (fun hHeld => ?_); refine with_tabW stickfullaw12_TabsGone.tab21 stickfullaw12_TabsGone.bits21 (fun HT_ HW_ => ?_)
                                            generalize wc.drew = w54 at HO_9 HO_11 HB hx273_0 hx274_0 hHeld ⊢
                                            refine pure_ (i := 0) (N := some 109) (v := ?_) (a' := ?_) #[true, false, false, false, false, false, false, false, false, false] rfl rfl (any_of HT_.out (by kernel_rfl)) (fun _ _ _ h => h) (Or.inl ⟨by rfl, ?_⟩) ?_ ?_
                                            rotate_left
                                            · intro w'
                                              go_simp
                                              with_reducible rfl
                                            rotate_left
                                            · simp only [Act.put, List.setIfInBounds_toArray, List.set_cons_zero, List.set_cons_succ, i64_w, i32_w]
                                              rfl
                                            refine pure_ (i := 1) (N := some 110) (v := ?_) (a' := ?_) #[true, true, false, false, false, false, false, false, false, false] rfl rfl (any_of HT_.out (by kernel_rfl)) (fun _ _ _ h => h) (Or.inl ⟨by rfl, ?_⟩) ?_ ?_
                                            rotate_left
                                            · intro w'
                                              go_simp
                                              with_reducible rfl
                                            rotate_left
                                            · simp only [Act.put, List.setIfInBounds_toArray, List.set_cons_zero, List.set_cons_succ, i64_w, i32_w]
                                              rfl
                                            refine pure_ (i := 2) (N := some 111) (v := ?_) (a' := ?_) #[true, true, true, false, false, false, false, false, false, false] rfl rfl (any_of HT_.out (by kernel_rfl)) (fun _ _ _ h => h) (Or.inl ⟨by rfl, ?_⟩) ?_ ?_
                                            rotate_left
                                            · intro w'
                                              go_simp
                                              with_reducible rfl
                                            rotate_left
                                            · simp only [Act.put, List.setIfInBounds_toArray, List.set_cons_zero, List.set_cons_succ, i64_w, i32_w]
                                              rfl
                                            refine pure_ (i := 3) (N := some 112) (v := ?_) (a' := ?_) #[true, true, true, true, false, false, false, false, false, false] rfl rfl (any_of HT_.out (by kernel_rfl)) (fun _ _ _ h => h) (Or.inl ⟨by rfl, ?_⟩) ?_ ?_
                                            rotate_left
                                            · intro w'
                                              go_simp
                                              with_reducible rfl
                                            rotate_left
                                            · simp only [Act.put, List.setIfInBounds_toArray, List.set_cons_zero, List.set_cons_succ, i64_w, i32_w]
                                              rfl
                                            refine pure_ (i := 5) (N := some 114) (v := ?_) (a' := ?_) #[true, true, true, true, false, true, false, false, false, false] rfl rfl (any_of HT_.out (by kernel_rfl)) (fun _ _ _ h => h) (Or.inl ⟨by rfl, ?_⟩) ?_ ?_
                                            rotate_left
                                            · intro w'
                                              go_simp
                                              with_reducible rfl
                                            rotate_left
                                            · simp only [Act.put, List.setIfInBounds_toArray, List.set_cons_zero, List.set_cons_succ, i64_w, i32_w]
                                              rfl
                                            refine pure_ (i := 6) (N := some 115) (v := ?_) (a' := ?_) #[true, true, true, true, false, true, true, false, false, false] rfl rfl (any_of HT_.out (by kernel_rfl)) (fun _ _ _ h => h) (Or.inl ⟨by rfl, ?_⟩) ?_ ?_
                                            rotate_left
                                            · intro w'
                                              go_simp
                                              with_reducible rfl
                                            rotate_left
                                            · simp only [Act.put, List.setIfInBounds_toArray, List.set_cons_zero, List.set_cons_succ, i64_w, i32_w]
                                              rfl
                                            refine pure_ (i := 7) (N := some 116) (v := ?_) (a' := ?_) #[true, true, true, true, false, true, true, true, false, false] rfl rfl (any_of HT_.out (by kernel_rfl)) (fun _ _ _ h => h) (Or.inl ⟨by rfl, ?_⟩) ?_ ?_
                                            rotate_left
                                            · intro w'
                                              go_simp
                                              with_reducible rfl
                                            rotate_left
                                            · simp only [Act.put, List.setIfInBounds_toArray, List.set_cons_zero, List.set_cons_succ, i64_w, i32_w]
                                              rfl
                                            refine take_ (i := 4) (N := some 113) (v := ?_) (a' := ?_) #[true, true, true, true, true, true, true, true, false, false] rfl rfl (take_ofW HT_.out HW_.out (by kernel_rfl)) (fun _ _ _ h => h) (Or.inl ⟨by rfl, ?_⟩) hHeld ?_ ?_
                                            rotate_left
                                            · rintro w' ⟨s0, s1⟩
                                              go_simp
                                              with_reducible rfl
                                            rotate_left
                                            · simp only [Act.put, List.setIfInBounds_toArray, List.set_cons_zero, List.set_cons_succ, i64_w, i32_w]
                                              rfl
                                            refine take_ (i := 8) (N := some 117) (v := ?_) (a' := ?_) #[true, true, true, true, true, true, true, true, true, false] rfl rfl (take_ofW HT_.out HW_.out (by kernel_rfl)) (fun _ _ _ h => h) (Or.inl ⟨by rfl, ?_⟩) hHeld ?_ ?_
                                            rotate_left
                                            · rintro w' ⟨s0, s1⟩
                                              go_simp
                                              with_reducible rfl
                                            rotate_left
                                            · simp only [Act.put, List.setIfInBounds_toArray, List.set_cons_zero, List.set_cons_succ, i64_w, i32_w]
                                              rfl
                                            refine pure_ (i := 9) (N := some 118) (v := ?_) (a' := ?_) #[true, true, true, true, true, true, true, true, true, true] rfl rfl (any_of HT_.out (by kernel_rfl)) (fun _ _ _ h => h) (Or.inl ⟨by rfl, ?_⟩) ?_ ?_
                                            rotate_left
                                            · intro w'
                                              go_simp
                                              with_reducible rfl
                                            rotate_left
                                            · simp only [Act.put, List.setIfInBounds_toArray, List.set_cons_zero, List.set_cons_succ, i64_w, i32_w]
                                              rfl
                                            refine done_ (done_of HT_.out (by kernel_rfl)) ?_
                                            try go_wp2
                                            go_roundg kj32
                                            case measure => have := HJ3.out; have := HK2.out; have := HJ21.out; have := HK4.out; have := HJ32.out; omega
                                            case rel => exact ⟨(x13_4), (ji48), (by first | rfl | (simp; done) | (simp [*]; done)), (by first | rfl | (simp; done) | (simp only [← hji48] <;> (first | rfl | simp)) | (simp [*]; done)), H', ⟨by have := HJ3.out; have := HK2.out; have := HJ21.out; have := HK4.out; have := HJ32.out; omega⟩, ⟨by (with_reducible repeat (first | apply Kd.R_alloc | apply Kd.R_drewN | apply Kd.R_drew)); exact HO_9.out⟩, ⟨by (with_reducible repeat (first | apply Kd.R_alloc | apply Kd.R_drewN | apply Kd.R_drew)); exact HO_11.out⟩, ⟨by repeat (first | (with_reducible first | exact HB.out | apply below_alloc | apply pw_below_drewN | apply below_drew1) | exact HB.out)⟩⟩
                                          · rw [if_neg c53] at H
                                            have c53b0 : ((rd t257 (ji48)) == (rd t261 x13_4)) = false := beq_eq_false_iff_ne.mpr c53
                                            have c53b1 : ((rd t257 (ji48)) != (rd t261 x13_4)) = true := bne_iff_ne.mpr c53
                                            exact absurd ((Option.some.inj H).trans HR_.out) (by decide)
                                        · rw [if_neg c52] at H
                                          exact absurd H (by simp)
                                      · rw [if_neg c51] at H
                                        exact absurd H (by simp)
                                    · rw [if_neg c50] at H
                                      exact absurd H (by simp)
                                  · rw [if_neg c49] at H
                                    exact absurd H (by simp)
                          · rw [if_neg c32] at H
                            have c32b0 : decide (x14_4 < (l0.length : Int)) = false := decide_eq_false c32
                            clear c32
                            by_cases c57 : 0 < (t257.length : Int)
                            · rw [if_pos c57] at H
                              have c57b0 : decide (0 < (t257.length : Int)) = true := decide_eq_true c57
                              have c57b1 : decide (0 < t257.length) = true := decide_eq_true (by omega)
                              clear c57
                              by_cases c58 : 0 < (t261.length : Int)
                              · rw [if_pos c58] at H
                                have c58b0 : decide (0 < (t261.length : Int)) = true := decide_eq_true c58
                                have c58b1 : decide (0 < t261.length) = true := decide_eq_true (by omega)
                                clear c58
                                by_cases c59 : (rd t257 0) = (rd t261 0)
                                · rw [if_pos c59] at H
                                  have c59b0 : ((rd t257 0) == (rd t261 0)) = true := beq_iff_eq.mpr c59
                                  have c59b1 : ((rd t257 0) != (rd t261 0)) = false := bne_eq_false_iff_eq.mpr c59
                                  clear c59
                                  replace H := Option.bind_eq_some_iff.mp H
                                  obtain ⟨t269, A600, H⟩ := H
                                  replace H : (some t269) = some r := H
                                  have A60 := Aside0.mk A600
                                  clear A600
                                  obtain rfl := Option.some.inj H
                                  try go_wp2
                                  replace HO_9 := Aside0.mk (Kd.R_drew HO_9.out)
                                  replace HO_11 := Aside0.mk (Kd.R_drew HO_11.out)
                                  replace HB := Aside0.mk (below_drew1 HB.out)
                                  obtain ⟨Ao62, co62, eo62⟩ := Kd.R_slice HO_9.out
                                  (first | subst eo62 | (injection eo62 with f1_ f2_ f3_; have f4_ := f1_.symm; have f5_ := f3_.symm; clear f1_ f2_ f3_; subst f4_; subst f5_))
                                  have p267 : 0 ≤ (0 : Int) := (by omega)
                                  have q267 : 0 < (t257.length : Int) := of_decide_eq_true (by first | (with_reducible assumption) | assumption)
                                  obtain ⟨ad267, e267, hx267_0⟩ := Kd.at_int (Kd.R_reads' HO_9.out).2.2 0 p267 q267
                                  cases e267
                                  have qi267 : (0 < t257.length) = True := eq_true (by omega)
                                  (try rw [show ((0 : Int)).toNat = 0 from rfl] at hx267_0)
                                  (try rw [Addr.add_zero'] at hx267_0)
                                  replace p267 := eq_true p267
                                  replace q267 := eq_true q267
                                  obtain ⟨Ao63, co63, eo63⟩ := Kd.R_slice HO_11.out
                                  (first | subst eo63 | (injection eo63 with f1_ f2_ f3_; have f4_ := f1_.symm; have f5_ := f3_.symm; clear f1_ f2_ f3_; subst f4_; subst f5_))
                                  have p268 : 0 ≤ (0 : Int) := (by omega)
                                  have q268 : 0 < (t261.length : Int) := of_decide_eq_true (by first | (with_reducible assumption) | assumption)
                                  obtain ⟨ad268, e268, hx268_0⟩ := Kd.at_int (Kd.R_reads' HO_11.out).2.2 0 p268 q268
                                  cases e268
                                  have qi268 : (0 < t261.length) = True := eq_true (by omega)
                                  (try rw [show ((0 : Int)).toNat = 0 from rfl] at hx268_0)
                                  (try rw [Addr.add_zero'] at hx268_0)
                                  replace p268 := eq_true p268
                                  replace q268 := eq_true q268
                                  refine start_ (n := 11) (S := fun w' => w'.cell? ad267 = some (.int .i64 (rd t257 0)) ∧ w'.cell? ad268 = some (.int .i64 (rd t261 0))) (ds := []) #[false, false, false, false, false, false, false, false, false, false, false] (by kernel_rfl) rfl rfl ⟨hx267_0, hx268_0⟩ (fun hHeld => ?_); refine with_tabW stickfullaw12_TabsGone.tab23 stickfullaw12_TabsGone.bits23 (fun HT_ HW_ => ?_)
                                  generalize wr.drew = w61 at HO_9 HO_11 HB hx267_0 hx268_0 hHeld ⊢
                                  refine pure_ (i := 0) (N := some 119) (v := ?_) (a' := ?_) #[true, false, false, false, false, false, false, false, false, false, false] rfl rfl (any_of HT_.out (by kernel_rfl)) (fun _ _ _ h => h) (Or.inl ⟨by rfl, ?_⟩) ?_ ?_
                                  rotate_left
                                  · intro w'
                                    go_simp
                                    with_reducible rfl
                                  rotate_left
                                  · simp only [Act.put, List.setIfInBounds_toArray, List.set_cons_zero, List.set_cons_succ, i64_w, i32_w]
                                    rfl
                                  refine pure_ (i := 1) (N := some 120) (v := ?_) (a' := ?_) #[true, true, false, false, false, false, false, false, false, false, false] rfl rfl (any_of HT_.out (by kernel_rfl)) (fun _ _ _ h => h) (Or.inl ⟨by rfl, ?_⟩) ?_ ?_
                                  rotate_left
                                  · intro w'
                                    go_simp
                                    with_reducible rfl
                                  rotate_left
                                  · simp only [Act.put, List.setIfInBounds_toArray, List.set_cons_zero, List.set_cons_succ, i64_w, i32_w]
                                    rfl
                                  refine pure_ (i := 3) (N := some 122) (v := ?_) (a' := ?_) #[true, true, false, true, false, false, false, false, false, false, false] rfl rfl (any_of HT_.out (by kernel_rfl)) (fun _ _ _ h => h) (Or.inl ⟨by rfl, ?_⟩) ?_ ?_
                                  rotate_left
                                  · intro w'
                                    go_simp
                                    with_reducible rfl
                                  rotate_left
                                  · simp only [Act.put, List.setIfInBounds_toArray, List.set_cons_zero, List.set_cons_succ, i64_w, i32_w]
                                    rfl
                                  refine pure_ (i := 4) (N := some 123) (v := ?_) (a' := ?_) #[true, true, false, true, true, false, false, false, false, false, false] rfl rfl (any_of HT_.out (by kernel_rfl)) (fun _ _ _ h => h) (Or.inl ⟨by rfl, ?_⟩) ?_ ?_
                                  rotate_left
                                  · intro w'
                                    go_simp
                                    with_reducible rfl
                                  rotate_left
                                  · simp only [Act.put, List.setIfInBounds_toArray, List.set_cons_zero, List.set_cons_succ, i64_w, i32_w]
                                    rfl
                                  refine take_ (i := 2) (N := some 121) (v := ?_) (a' := ?_) #[true, true, true, true, true, false, false, false, false, false, false] rfl rfl (take_ofW HT_.out HW_.out (by kernel_rfl)) (fun _ _ _ h => h) (Or.inl ⟨by rfl, ?_⟩) hHeld ?_ ?_
                                  rotate_left
                                  · rintro w' ⟨s0, s1⟩
                                    go_simp
                                    with_reducible rfl
                                  rotate_left
                                  · simp only [Act.put, List.setIfInBounds_toArray, List.set_cons_zero, List.set_cons_succ, i64_w, i32_w]
                                    rfl
                                  refine take_ (i := 5) (N := some 124) (v := ?_) (a' := ?_) #[true, true, true, true, true, true, false, false, false, false, false] rfl rfl (take_ofW HT_.out HW_.out (by kernel_rfl)) (fun _ _ _ h => h) (Or.inl ⟨by rfl, ?_⟩) hHeld ?_ ?_
                                  rotate_left
                                  · rintro w' ⟨s0, s1⟩
                                    go_simp
                                    with_reducible rfl
                                  rotate_left
                                  · simp only [Act.put, List.setIfInBounds_toArray, List.set_cons_zero, List.set_cons_succ, i64_w, i32_w]
                                    rfl
                                  refine pure_ (i := 6) (N := some 125) (v := ?_) (a' := ?_) #[true, true, true, true, true, true, true, false, false, false, false] rfl rfl (any_of HT_.out (by kernel_rfl)) (fun _ _ _ h => h) (Or.inl ⟨by rfl, ?_⟩) ?_ ?_
                                  rotate_left
                                  · intro w'
                                    go_simp
                                    with_reducible rfl
                                  rotate_left
                                  · simp only [Act.put, List.setIfInBounds_toArray, List.set_cons_zero, List.set_cons_succ, i64_w, i32_w]
                                    rfl
                                  refine pure_ (i := 7) (N := some 126) (v := ?_) (a' := ?_) #[true, true, true, true, true, true, true, true, false, false, false] rfl rfl (any_of HT_.out (by kernel_rfl)) (fun _ _ _ h => h) (Or.inl ⟨by rfl, ?_⟩) ?_ ?_
                                  rotate_left
                                  · intro w'
                                    go_simp
                                    with_reducible rfl
                                  rotate_left
                                  · simp only [Act.put, List.setIfInBounds_toArray, List.set_cons_zero, List.set_cons_succ, i64_w, i32_w]
                                    rfl
                                  refine one_ (i := 8) (N := some 127) #[true, true, true, true, true, true, true, true, true, false, false] rfl rfl (one_of HT_.out (by kernel_rfl)) (by decide) (fun K hK => ?_)
                                  refine goes_ Try.func7 (by kernel_rfl) rfl #[] (by rfl) rfl rfl (by (try simp only [List.map_toArray, List.map_cons, List.map_nil]); first | done | rfl | (simp only [List.length_drop, List.length_take]; rfl)) ?_
                                  with_reducible refine (stickfullaw12_head.calls k4  t269 _ A60.out).mono ?_
                                  rintro e w64 ⟨rfl, hb⟩
                                  have HS0_ := (hb.cell (World.block_lt_of_cell? _ _ (hHeld.1))).trans (hHeld.1)
                                  have HS1_ := (hb.cell (World.block_lt_of_cell? _ _ (hHeld.2))).trans (hHeld.2)
                                  refine ⟨_, rfl, ?_⟩
                                  replace HO_9 := Aside0.mk (Kd.R_below (rx HO_9) hb)
                                  replace HO_11 := Aside0.mk (Kd.R_below (rx HO_11) hb)
                                  replace HB := bh HB hb
                                  (try clear hb)
                                  (try clear hb2)
                                  (try clear hk)
                                  (try clear hi)
                                  refine hK.out _ _ ⟨HS0_, HS1_⟩ (fun hHeld => ?_)
                                  clear hK K
                                  refine norm_ (a' := ?_) ?_ ?_
                                  rotate_left
                                  · show Act.put _ (some 127) _ = _
                                    simp only [Act.put, List.setIfInBounds_toArray, List.set_cons_zero, List.set_cons_succ, i64_w, i32_w]
                                    rfl
                                  refine pure_ (i := 9) (N := some 128) (v := ?_) (a' := ?_) #[true, true, true, true, true, true, true, true, true, true, false] rfl rfl (any_of HT_.out (by kernel_rfl)) (fun _ _ _ h => h) (Or.inl ⟨by rfl, ?_⟩) ?_ ?_
                                  rotate_left
                                  · intro w'
                                    go_simp
                                    with_reducible rfl
                                  rotate_left
                                  · simp only [Act.put, List.setIfInBounds_toArray, List.set_cons_zero, List.set_cons_succ, i64_w, i32_w]
                                    rfl
                                  refine pure_ (i := 10) (N := some 6) (v := ?_) (a' := ?_) #[true, true, true, true, true, true, true, true, true, true, true] rfl rfl (any_of HT_.out (by kernel_rfl)) (fun _ _ _ h => h) (Or.inl ⟨by rfl, ?_⟩) ?_ ?_
                                  rotate_left
                                  · intro w'
                                    go_simp
                                    with_reducible rfl
                                  rotate_left
                                  · simp only [Act.put, List.setIfInBounds_toArray, List.set_cons_zero, List.set_cons_succ, i64_w, i32_w]
                                    rfl
                                  refine done_ (done_of HT_.out (by kernel_rfl)) ?_
                                  try go_wp2
                                  go_ret
                                  exact ⟨by first | rfl | (simp [errW_none, errW_some] <;> rfl) | (simp [*, errW_none, errW_some] <;> rfl), by repeat (first | (with_reducible first | exact HB.out | apply below_alloc | apply pw_below_drewN | apply below_drew1) | exact HB.out)⟩
                                · rw [if_neg c59] at H
                                  have c59b0 : ((rd t257 0) == (rd t261 0)) = false := beq_eq_false_iff_ne.mpr c59
                                  have c59b1 : ((rd t257 0) != (rd t261 0)) = true := bne_iff_ne.mpr c59
                                  exact absurd ((Option.some.inj H).trans HR_.out) (by decide)
                              · rw [if_neg c58] at H
                                exact absurd H (by simp)
                            · rw [if_neg c57] at H
                              exact absurd H (by simp)
              · rw [if_neg c21] at H
                have c21b0 : (t258 == 0) = false := beq_eq_false_iff_ne.mpr c21
                have c21b1 : (t258 != 0) = true := bne_iff_ne.mpr c21
                by_cases c65 : t262 = 0
                · rw [if_pos c65] at H
                  have c65b0 : (t262 == 0) = true := beq_iff_eq.mpr c65
                  have c65b1 : (t262 != 0) = false := bne_eq_false_iff_eq.mpr c65
                  clear c65
                  by_cases c66 : t258 = 2
                  · rw [if_pos c66] at H
                    have c66b0 : (t258 == 2) = true := beq_iff_eq.mpr c66
                    have c66b1 : (t258 != 2) = false := bne_eq_false_iff_eq.mpr c66
                    clear c66
                    replace H := Option.bind_eq_some_iff.mp H
                    obtain ⟨t265, A670, H⟩ := H
                    replace H : (some t265) = some r := H
                    have A67 := Aside0.mk A670
                    clear A670
                    obtain rfl := Option.some.inj H
                    go_wp2_with (first | ((with_reducible refine gate_callee (f := 8) rfl ?_); refine goesB (some 52) rfl rfl Try.func8 #[.slice A0 l0.length c0, .slice A1 l1.length c1, .int .i64 a2] rfl ?_; (with_reducible refine (tabs_Pens.calls _ _ l0 _ _ l1 a2 t257 t258 _ ?side1 ?side2 ?side3 ?side4 A19.out).mono ?_); (case side1 => repeat (first | exact (Kd.C_below HR0.out HB.out) | (with_reducible refine Kd.C_alloc ?_ _) | (with_reducible refine Kd.C_drewN ?_ _) | (with_reducible refine Kd.C_drew ?_))); (case side2 => exact HC0.out); (case side3 => repeat (first | exact (Kd.C_below HR1.out HB.out) | (with_reducible refine Kd.C_alloc ?_ _) | (with_reducible refine Kd.C_drewN ?_ _) | (with_reducible refine Kd.C_drew ?_))); (case side4 => exact HC1.out); rintro e w68 ⟨v259, rfl, ho0, hb⟩; refine ⟨_, rfl, ?_⟩; replace HO_7 := Aside0.mk (Kd.R_below (rx HO_7) hb); have HO260 := Aside0.mk (Kd.R_lower ho0 (below_size (bw HB))); replace HB := bh HB hb; (try clear hb); (try clear hb2); (try clear hk); (try clear hi); (try clear ho0); obtain ⟨Ao69, co69, eo69⟩ := Kd.R_slice HO_7.out; subst eo69) | ((with_reducible refine gate_callee (f := 8) rfl ?_); refine goesB (some 58) rfl rfl Try.func8 #[.slice Ao69 x7_2.length co69, .slice none 0 0, .int .i64 a2] rfl ?_; (refine (tabs_Pens.calls _ _ x7_2 _ _ ([] : List Int) a2 t261 t262 _ ?side1 ?side2 ?side3 ?side4 A20.out).mono ?_); (case side1 => repeat (first | exact (Kd.R_reads' HO_7.out).2.2 | (with_reducible refine Kd.C_alloc ?_ _) | (with_reducible refine Kd.C_drewN ?_ _) | (with_reducible refine Kd.C_drew ?_))); (case side2 => exact (Kd.R_reads' HO_7.out).2.1); (case side3 => exact Kd.C_nil _ _); (case side4 => exact Nat.le_refl _); rintro e w70 ⟨v263, rfl, ho0, hb⟩; refine ⟨_, rfl, ?_⟩; replace HO_7 := Aside0.mk (Kd.R_below (rx HO_7) hb); have HO264 := Aside0.mk (Kd.R_lower (Kd.R_new' ho0 (Kd.R_lt (rx HO260))) (below_size (bw HB))); replace HO260 := Aside0.mk (Kd.R_elder' (rx HO260) (Kd.R_base ho0) hb); replace HB := bh HB hb; (try clear hb); (try clear hb2); (try clear hk); (try clear hi); (try clear ho0)) | (go_at_call 7; (with_reducible refine (stickfullaw12_head.calls k2  t265 _ A67.out).mono ?_); rintro e w71 ⟨rfl, hb⟩; replace HO_7 := Aside0.mk (Kd.R_below (rx HO_7) hb); replace HO260 := Aside0.mk (Kd.R_below (rx HO260) hb); replace HO264 := Aside0.mk (Kd.R_below (rx HO264) hb); replace HB := bh HB hb; (try clear hb); (try clear hb2); (try clear hk); (try clear hi)))
                    go_ret
                    exact ⟨by first | rfl | (simp [errW_none, errW_some] <;> rfl) | (simp [*, errW_none, errW_some] <;> rfl), by repeat (first | (with_reducible first | exact HB.out | apply below_alloc | apply pw_below_drewN | apply below_drew1) | exact HB.out)⟩
                  · rw [if_neg c66] at H
                    have c66b0 : (t258 == 2) = false := beq_eq_false_iff_ne.mpr c66
                    have c66b1 : (t258 != 2) = true := bne_iff_ne.mpr c66
                    exact absurd ((Option.some.inj H).trans HR_.out) (by decide)
                · rw [if_neg c65] at H
                  have c65b0 : (t262 == 0) = false := beq_eq_false_iff_ne.mpr c65
                  have c65b1 : (t262 != 0) = true := bne_iff_ne.mpr c65
                  replace H := Option.bind_eq_some_iff.mp H
                  obtain ⟨t266, A720, H⟩ := H
                  replace H : (some t266) = some r := H
                  have A72 := Aside0.mk A720
                  clear A720
                  obtain rfl := Option.some.inj H
                  go_wp2_with (first | ((with_reducible refine gate_callee (f := 8) rfl ?_); refine goesB (some 52) rfl rfl Try.func8 #[.slice A0 l0.length c0, .slice A1 l1.length c1, .int .i64 a2] rfl ?_; (with_reducible refine (tabs_Pens.calls _ _ l0 _ _ l1 a2 t257 t258 _ ?side1 ?side2 ?side3 ?side4 A19.out).mono ?_); (case side1 => repeat (first | exact (Kd.C_below HR0.out HB.out) | (with_reducible refine Kd.C_alloc ?_ _) | (with_reducible refine Kd.C_drewN ?_ _) | (with_reducible refine Kd.C_drew ?_))); (case side2 => exact HC0.out); (case side3 => repeat (first | exact (Kd.C_below HR1.out HB.out) | (with_reducible refine Kd.C_alloc ?_ _) | (with_reducible refine Kd.C_drewN ?_ _) | (with_reducible refine Kd.C_drew ?_))); (case side4 => exact HC1.out); rintro e w73 ⟨v259, rfl, ho0, hb⟩; refine ⟨_, rfl, ?_⟩; replace HO_7 := Aside0.mk (Kd.R_below (rx HO_7) hb); have HO260 := Aside0.mk (Kd.R_lower ho0 (below_size (bw HB))); replace HB := bh HB hb; (try clear hb); (try clear hb2); (try clear hk); (try clear hi); (try clear ho0); obtain ⟨Ao74, co74, eo74⟩ := Kd.R_slice HO_7.out; subst eo74) | ((with_reducible refine gate_callee (f := 8) rfl ?_); refine goesB (some 58) rfl rfl Try.func8 #[.slice Ao74 x7_2.length co74, .slice none 0 0, .int .i64 a2] rfl ?_; (refine (tabs_Pens.calls _ _ x7_2 _ _ ([] : List Int) a2 t261 t262 _ ?side1 ?side2 ?side3 ?side4 A20.out).mono ?_); (case side1 => repeat (first | exact (Kd.R_reads' HO_7.out).2.2 | (with_reducible refine Kd.C_alloc ?_ _) | (with_reducible refine Kd.C_drewN ?_ _) | (with_reducible refine Kd.C_drew ?_))); (case side2 => exact (Kd.R_reads' HO_7.out).2.1); (case side3 => exact Kd.C_nil _ _); (case side4 => exact Nat.le_refl _); rintro e w75 ⟨v263, rfl, ho0, hb⟩; refine ⟨_, rfl, ?_⟩; replace HO_7 := Aside0.mk (Kd.R_below (rx HO_7) hb); have HO264 := Aside0.mk (Kd.R_lower (Kd.R_new' ho0 (Kd.R_lt (rx HO260))) (below_size (bw HB))); replace HO260 := Aside0.mk (Kd.R_elder' (rx HO260) (Kd.R_base ho0) hb); replace HB := bh HB hb; (try clear hb); (try clear hb2); (try clear hk); (try clear hi); (try clear ho0)) | (go_at_call 7; (with_reducible refine (stickfullaw12_head.calls k2  t266 _ A72.out).mono ?_); rintro e w76 ⟨rfl, hb⟩; replace HO_7 := Aside0.mk (Kd.R_below (rx HO_7) hb); replace HO260 := Aside0.mk (Kd.R_below (rx HO260) hb); replace HO264 := Aside0.mk (Kd.R_below (rx HO264) hb); replace HB := bh HB hb; (try clear hb); (try clear hb2); (try clear hk); (try clear hi)))
                  go_ret
                  exact ⟨by first | rfl | (simp [errW_none, errW_some] <;> rfl) | (simp [*, errW_none, errW_some] <;> rfl), by repeat (first | (with_reducible first | exact HB.out | apply below_alloc | apply pw_below_drewN | apply below_drew1) | exact HB.out)⟩

end Go.Proofs.Ytdkhjhckdjhiiaa.HTabs
