-- Written by this claim's own program over the kit's print.
import Derived.Test.YtdkhjhckdjhiiaaHTabsb
import Derived.Test.YtdkhjhckdjhiiaaHTabsx0
import Derived.Test.YtdkhjhckdjhiiaaHTabsx4
import Derived.Test.YtdkhjhckdjhiiaaHTabsx5
namespace Go.Proofs.Ytdkhjhckdjhiiaa.HTabs
open Go.RowKit Go.Proofs.YtdkhjhckdjhiiaaW.PrintWords Go.Proofs.YtdkhjhckdjhiiaaW.PrintLast Go.Proofs.YtdkhjhckdjhiiaaW.PrintMore Go.Proofs.Ytdkhjhckdjhiiaa.Hand
attribute [local go_sem] max2_int min2_int max_two min_two max_three min_three max_four min_four   -- for this text's walks alone
set_option linter.unusedVariables false
set_option linter.unusedSimpArgs false

/-! ### stickfullaw12_TabsParts: function 3 -/
mutual
def stickfullaw12_TabsParts.j0 : Nat → List (S31) → Int → List Int → List Int → Bool → Option (Bool)
  | 0, _, _, _, _, _ => none
  | k + 1, x0, x7, x8, x10, x61 => if x61 = true then (some false) else (if 0 ≤ x7 then (if x7 ≤ (x0.length : Int) then (if x7 < (x10.length : Int) then ((tabs_Pens.f (x0.drop (x7 : Int).toNat) ([] : List Int) (rd x10 x7)).bind fun bt206 => (if bt206.2 = 0 then (stickfullaw12_TabsParts.j1 k x8 x10 bt206.1 ((bt206.1.length : Int) != (wrap64 ((wrap64 ((x0.length : Int) - x7)) + 1)))) else (stickfullaw12_TabsParts.j1 k x8 x10 bt206.1 true))) else (none)) else (none)) else (none))
def stickfullaw12_TabsParts.j1 : Nat → List Int → List Int → List Int → Bool → Option (Bool)
  | 0, _, _, _, _ => none
  | k + 1, x8, x10, x12, x84 => if x84 = true then (some false) else ((some (([] : List Int) : List Int)).bind fun y210 => (if y210.length + x10.length < 17592186044416 then ((some (y210 ++ x10 : List Int)).bind fun y213 => (if 1 ≤ (x12.length : Int) then ((some (x12.drop 1 : List Int)).bind fun y216 => (if y213.length + y216.length < 17592186044416 then ((stickfulref12_Same.f k (y213 ++ y216) x8).bind fun t223 => (if t223 = true then ((stickfullaw12_head.f k).bind fun t224 => (some t224)) else (some false))) else (none))) else (none))) else (none)))
end
def stickfullaw12_TabsParts.f (k : Nat) (l0 : List (S31)) (a1 a2 : Int) : Option (Bool) := if (l0.length : Int) > 200 then ((stickfullaw12_head.f k).bind fun t186 => (some t186)) else (if (wrap64 ((l0.length : Int) + 1)) = 0 then (none) else ((tabs_Pens.f l0 ([] : List Int) a1).bind fun bt187 => (if bt187.2 = 0 then (if 0 ≤ (Int.tmod (wrap64 (a2)) (wrap64 ((l0.length : Int) + 1))) then (if (Int.tmod (wrap64 (a2)) (wrap64 ((l0.length : Int) + 1))) ≤ (l0.length : Int) then ((tabs_Pens.f (l0.take ((Int.tmod (wrap64 (a2)) (wrap64 ((l0.length : Int) + 1))) : Int).toNat) ([] : List Int) a1).bind fun bt196 => (if bt196.2 = 0 then (if (bt196.1.length : Int) = (wrap64 ((Int.tmod (wrap64 (a2)) (wrap64 ((l0.length : Int) + 1))) + 1)) then (if 0 < (bt196.1.length : Int) then (stickfullaw12_TabsParts.j0 k l0 (Int.tmod (wrap64 (a2)) (wrap64 ((l0.length : Int) + 1))) bt187.1 bt196.1 ((rd bt196.1 0) != a1)) else (none)) else (stickfullaw12_TabsParts.j0 k l0 (Int.tmod (wrap64 (a2)) (wrap64 ((l0.length : Int) + 1))) bt187.1 bt196.1 true)) else (stickfullaw12_TabsParts.j0 k l0 (Int.tmod (wrap64 (a2)) (wrap64 ((l0.length : Int) + 1))) bt187.1 bt196.1 true))) else (none)) else (none)) else (if (bt187.1.length : Int) = 0 then ((stickfullaw12_head.f k).bind fun t191 => (some t191)) else (some false)))))
theorem stickfullaw12_TabsParts.mono_l : ∀ k, (∀ y0 y1 y2 y3 y4, LeO (stickfullaw12_TabsParts.j0 k y0 y1 y2 y3 y4) (stickfullaw12_TabsParts.j0 (k + 1) y0 y1 y2 y3 y4)) ∧ (∀ y0 y1 y2 y3, LeO (stickfullaw12_TabsParts.j1 k y0 y1 y2 y3) (stickfullaw12_TabsParts.j1 (k + 1) y0 y1 y2 y3))
  | 0 => ⟨fun _ _ _ _ _ r h => by simp [stickfullaw12_TabsParts.j0] at h, fun _ _ _ _ r h => by simp [stickfullaw12_TabsParts.j1] at h⟩
  | k + 1 => by
    obtain ⟨ih0, ih1⟩ := stickfullaw12_TabsParts.mono_l k
    refine ⟨?_, ?_⟩
    · intro y0 y1 y2 y3 y4
      unfold stickfullaw12_TabsParts.j0
      repeat' first
      | (with_reducible exact ih0 _ _ _ _ _)
      | (with_reducible exact ih1 _ _ _ _)
      | (with_reducible exact stickfullaw12_head.mono _)
      | (with_reducible exact stickfulref12_Same.mono _ _ _)
      | (with_reducible exact LeO.refl _)
      | (with_reducible exact LeO.none _)
      | (with_reducible refine LeO.ite ?_ ?_)
      | (with_reducible refine LeO.bind ?_ (fun _ => ?_))
      | exact ih0 _ _ _ _ _
      | exact ih1 _ _ _ _
      | exact stickfullaw12_head.mono _
      | exact stickfulref12_Same.mono _ _ _
      | exact LeO.none _
      | refine LeO.ite ?_ ?_
      | refine LeO.bind ?_ (fun _ => ?_)
    · intro y0 y1 y2 y3
      unfold stickfullaw12_TabsParts.j1
      repeat' first
      | (with_reducible exact ih0 _ _ _ _ _)
      | (with_reducible exact ih1 _ _ _ _)
      | (with_reducible exact stickfullaw12_head.mono _)
      | (with_reducible exact stickfulref12_Same.mono _ _ _)
      | (with_reducible exact LeO.refl _)
      | (with_reducible exact LeO.none _)
      | (with_reducible refine LeO.ite ?_ ?_)
      | (with_reducible refine LeO.bind ?_ (fun _ => ?_))
      | exact ih0 _ _ _ _ _
      | exact ih1 _ _ _ _
      | exact stickfullaw12_head.mono _
      | exact stickfulref12_Same.mono _ _ _
      | exact LeO.none _
      | refine LeO.ite ?_ ?_
      | refine LeO.bind ?_ (fun _ => ?_)
theorem stickfullaw12_TabsParts.mono : ∀ a0 a1 a2 k, LeO (stickfullaw12_TabsParts.f k a0 a1 a2) (stickfullaw12_TabsParts.f (k + 1) a0 a1 a2) := by
  intro a0 a1 a2 k
  obtain ⟨ih0, ih1⟩ := stickfullaw12_TabsParts.mono_l k
  unfold stickfullaw12_TabsParts.f
  repeat' first
      | (with_reducible exact ih0 _ _ _ _ _)
      | (with_reducible exact ih1 _ _ _ _)
      | (with_reducible exact stickfullaw12_head.mono _)
      | (with_reducible exact stickfulref12_Same.mono _ _ _)
      | (with_reducible exact LeO.refl _)
      | (with_reducible exact LeO.none _)
      | (with_reducible refine LeO.ite ?_ ?_)
      | (with_reducible refine LeO.bind ?_ (fun _ => ?_))
      | exact ih0 _ _ _ _ _
      | exact ih1 _ _ _ _
      | exact stickfullaw12_head.mono _
      | exact stickfulref12_Same.mono _ _ _
      | exact LeO.none _
      | refine LeO.ite ?_ ?_
      | refine LeO.bind ?_ (fun _ => ?_)
def stickfullaw12_TabsParts.T10 : Bool × List (List Nat × List Nat) := (true, [([], []), ([], []), ([0, 1], [0, 1]), ([], []), ([], []), ([3, 4], [3, 4]), ([5], [5]), ([2, 6], [2, 6]), ([7], [7]), ([8], [8]), ([8], [8]), ([9, 7, 0, 1, 2, 3, 4, 5, 6, 7, 8, 9], [9]), ([10, 11, 0, 1, 2, 3, 4, 5, 6, 7, 8, 9, 10, 11], [10])])
def stickfullaw12_TabsParts.B10 : List Nat := [0, 0, 3, 0, 0, 24, 56, 127, 255, 511, 511, 1023, 4095]
theorem stickfullaw12_TabsParts.tab10 : rtab .any (opsOf Try.f3 10) = stickfullaw12_TabsParts.T10 := by kernel_rfl
theorem stickfullaw12_TabsParts.bits10 : waitsOk stickfullaw12_TabsParts.T10.2 stickfullaw12_TabsParts.B10 = true := by kernel_rfl
def stickfullaw12_TabsParts.T13 : Bool × List (List Nat × List Nat) := (true, [([], []), ([], []), ([0, 1], [0, 1]), ([], []), ([3], [3]), ([2, 4, 2], [2, 4]), ([], []), ([5, 6, 5], [5, 6]), ([7, 7], [7]), ([8, 8], [8]), ([8, 9], [8, 9]), ([10, 9, 0, 1, 2, 3, 4, 5, 6, 7, 8, 9, 10], [10])])
def stickfullaw12_TabsParts.B13 : List Nat := [0, 0, 3, 0, 8, 31, 0, 127, 255, 511, 1023, 2047]
theorem stickfullaw12_TabsParts.tab13 : rtab .any (opsOf Try.f3 13) = stickfullaw12_TabsParts.T13 := by kernel_rfl
theorem stickfullaw12_TabsParts.bits13 : waitsOk stickfullaw12_TabsParts.T13.2 stickfullaw12_TabsParts.B13 = true := by kernel_rfl
set_option maxHeartbeats 8000000 in
set_option maxRecDepth 100000 in
theorem stickfullaw12_TabsParts.calls_t (k : Nat) (A0 : Option Addr) (c0 : Nat) (l0 : List (S31)) (a1 a2 : Int) (r : Bool) (w : World) (hr0 : Kd.C k31 w A0 l0.length l0) (hc0 : l0.length ≤ c0) (h : stickfullaw12_TabsParts.f k l0 a1 a2 = some r) (hr_ : r = true) :
    Calls Try.prog 3 #[.slice A0 l0.length c0, .int .i64 a1, .int .u8 a2] w fun e w' => e = .returned (.bool r) ∧ Below w.heap.size w w' := by
  have HR_ := Aside0.mk hr_
  clear hr_
  have HR0 := Aside0.mk hr0
  have HC0 := Aside0.mk hc0
  clear hr0 hc0
  have HB := Aside0.mk (Below.refl w.heap.size w)
  have H : (if (l0.length : Int) > 200 then ((stickfullaw12_head.f k).bind fun t186 => (some t186)) else (if (wrap64 ((l0.length : Int) + 1)) = 0 then (none) else ((tabs_Pens.f l0 ([] : List Int) a1).bind fun bt187 => (if bt187.2 = 0 then (if 0 ≤ (Int.tmod (wrap64 (a2)) (wrap64 ((l0.length : Int) + 1))) then (if (Int.tmod (wrap64 (a2)) (wrap64 ((l0.length : Int) + 1))) ≤ (l0.length : Int) then ((tabs_Pens.f (l0.take ((Int.tmod (wrap64 (a2)) (wrap64 ((l0.length : Int) + 1))) : Int).toNat) ([] : List Int) a1).bind fun bt196 => (if bt196.2 = 0 then (if (bt196.1.length : Int) = (wrap64 ((Int.tmod (wrap64 (a2)) (wrap64 ((l0.length : Int) + 1))) + 1)) then (if 0 < (bt196.1.length : Int) then (stickfullaw12_TabsParts.j0 k l0 (Int.tmod (wrap64 (a2)) (wrap64 ((l0.length : Int) + 1))) bt187.1 bt196.1 ((rd bt196.1 0) != a1)) else (none)) else (stickfullaw12_TabsParts.j0 k l0 (Int.tmod (wrap64 (a2)) (wrap64 ((l0.length : Int) + 1))) bt187.1 bt196.1 true)) else (stickfullaw12_TabsParts.j0 k l0 (Int.tmod (wrap64 (a2)) (wrap64 ((l0.length : Int) + 1))) bt187.1 bt196.1 true))) else (none)) else (none)) else (if (bt187.1.length : Int) = 0 then ((stickfullaw12_head.f k).bind fun t191 => (some t191)) else (some false)))))) = some r := h
  clear h
  by_cases c4 : (l0.length : Int) > 200
  · rw [if_pos c4] at H
    have c4b0 : decide (200 < (l0.length : Int)) = true := decide_eq_true c4
    have c4b1 : decide (200 < l0.length) = true := decide_eq_true (by omega)
    clear c4
    replace H := Option.bind_eq_some_iff.mp H
    obtain ⟨t186, A50, H⟩ := H
    replace H : (some t186) = some r := H
    have A5 := Aside0.mk A50
    clear A50
    obtain rfl := Option.some.inj H
    go_enter Try.func3, Try.ntmps3
    go_wp2_with (first | ((with_reducible refine gate_callee (f := 7) rfl ?_); refine goesB (some 17) rfl rfl Try.func7 #[] rfl ?_; (with_reducible refine (stickfullaw12_head.calls k  t186 _ A5.out).mono ?_); rintro e w6 ⟨rfl, hb⟩; refine ⟨_, rfl, ?_⟩; replace HB := bh HB hb; (try clear hb); (try clear hb2); (try clear hk); (try clear hi)))
    go_ret
    exact ⟨by first | rfl | (simp [errW_none, errW_some] <;> rfl) | (simp [*, errW_none, errW_some] <;> rfl), by repeat (first | (with_reducible first | exact HB.out | apply below_alloc | apply pw_below_drewN | apply below_drew1) | exact HB.out)⟩
  · rw [if_neg c4] at H
    have c4b0 : decide (200 < (l0.length : Int)) = false := decide_eq_false c4
    have c4b1 : decide (200 < l0.length) = false := decide_eq_false (by omega)
    clear c4
    by_cases c7 : (wrap64 ((l0.length : Int) + 1)) = 0
    · rw [if_pos c7] at H
      exact absurd H (by simp)
    · rw [if_neg c7] at H
      have c7b0 : ((wrap64 ((l0.length : Int) + 1)) == 0) = false := beq_eq_false_iff_ne.mpr c7
      have c7b1 : ((wrap64 ((l0.length : Int) + 1)) != 0) = true := bne_iff_ne.mpr c7
      replace H := Option.bind_eq_some_iff.mp H
      obtain ⟨⟨t187, t188⟩, A80, H⟩ := H
      replace H : (if t188 = 0 then (if 0 ≤ (Int.tmod (wrap64 (a2)) (wrap64 ((l0.length : Int) + 1))) then (if (Int.tmod (wrap64 (a2)) (wrap64 ((l0.length : Int) + 1))) ≤ (l0.length : Int) then ((tabs_Pens.f (l0.take ((Int.tmod (wrap64 (a2)) (wrap64 ((l0.length : Int) + 1))) : Int).toNat) ([] : List Int) a1).bind fun bt196 => (if bt196.2 = 0 then (if (bt196.1.length : Int) = (wrap64 ((Int.tmod (wrap64 (a2)) (wrap64 ((l0.length : Int) + 1))) + 1)) then (if 0 < (bt196.1.length : Int) then (stickfullaw12_TabsParts.j0 k l0 (Int.tmod (wrap64 (a2)) (wrap64 ((l0.length : Int) + 1))) t187 bt196.1 ((rd bt196.1 0) != a1)) else (none)) else (stickfullaw12_TabsParts.j0 k l0 (Int.tmod (wrap64 (a2)) (wrap64 ((l0.length : Int) + 1))) t187 bt196.1 true)) else (stickfullaw12_TabsParts.j0 k l0 (Int.tmod (wrap64 (a2)) (wrap64 ((l0.length : Int) + 1))) t187 bt196.1 true))) else (none)) else (none)) else (if (t187.length : Int) = 0 then ((stickfullaw12_head.f k).bind fun t191 => (some t191)) else (some false))) = some r := H
      have A8 := Aside0.mk A80
      clear A80
      by_cases c9 : t188 = 0
      · rw [if_pos c9] at H
        have c9b0 : (t188 == 0) = true := beq_iff_eq.mpr c9
        have c9b1 : (t188 != 0) = false := bne_eq_false_iff_eq.mpr c9
        clear c9
        obtain ⟨ji10, hji10⟩ : ∃ j_ : Int, (Int.tmod (wrap64 (a2)) (wrap64 ((l0.length : Int) + 1))) = j_ := ⟨_, rfl⟩
        replace H : (if 0 ≤ (ji10) then (if (ji10) ≤ (l0.length : Int) then ((tabs_Pens.f (l0.take ((ji10) : Int).toNat) ([] : List Int) a1).bind fun bt196 => (if bt196.2 = 0 then (if (bt196.1.length : Int) = (wrap64 ((ji10) + 1)) then (if 0 < (bt196.1.length : Int) then (stickfullaw12_TabsParts.j0 k l0 ji10 t187 bt196.1 ((rd bt196.1 0) != a1)) else (none)) else (stickfullaw12_TabsParts.j0 k l0 ji10 t187 bt196.1 true)) else (stickfullaw12_TabsParts.j0 k l0 ji10 t187 bt196.1 true))) else (none)) else (none)) = some r := by first | (rw [hji10] at H; exact H) | (simp only [hji10] at H ⊢; exact H)
        (try rw [hji10] at A8)
        by_cases c11 : 0 ≤ (ji10)
        · rw [if_pos c11] at H
          have c11b0 := eq_true c11
          have c11b1 : decide (0 ≤ (ji10)) = true := decide_eq_true c11
          clear c11
          by_cases c12 : (ji10) ≤ (l0.length : Int)
          · rw [if_pos c12] at H
            have c12b0 := eq_true c12
            have c12b1 : decide ((ji10) ≤ (l0.length : Int)) = true := decide_eq_true c12
            clear c12
            obtain ⟨y192, hy192⟩ : ∃ y_ : List (S31), y_ = (l0.take ((ji10) : Int).toNat) := ⟨_, rfl⟩
            replace H : ((tabs_Pens.f y192 ([] : List Int) a1).bind fun bt196 => (if bt196.2 = 0 then (if (bt196.1.length : Int) = (wrap64 ((ji10) + 1)) then (if 0 < (bt196.1.length : Int) then (stickfullaw12_TabsParts.j0 k l0 ji10 t187 bt196.1 ((rd bt196.1 0) != a1)) else (none)) else (stickfullaw12_TabsParts.j0 k l0 ji10 t187 bt196.1 true)) else (stickfullaw12_TabsParts.j0 k l0 ji10 t187 bt196.1 true))) = some r := by first | (rw [hy192]; with_reducible exact H) | (have H2_ := (Option.bind_some _ _).symm.trans H; rw [hy192]; with_reducible exact H2_) | (have H2_ := (Option.bind_some _ _).symm.trans H; with_reducible exact H2_) | with_reducible exact H | (rw [hy192]; exact H) | exact H
            have Ny192 := Aside0.mk hy192
            clear hy192
            replace H := Option.bind_eq_some_iff.mp H
            obtain ⟨⟨t196, t197⟩, A130, H⟩ := H
            replace H : (if t197 = 0 then (if (t196.length : Int) = (wrap64 ((ji10) + 1)) then (if 0 < (t196.length : Int) then (stickfullaw12_TabsParts.j0 k l0 ji10 t187 t196 ((rd t196 0) != a1)) else (none)) else (stickfullaw12_TabsParts.j0 k l0 ji10 t187 t196 true)) else (stickfullaw12_TabsParts.j0 k l0 ji10 t187 t196 true)) = some r := H
            have A13 := Aside0.mk A130
            clear A130
            have HC14 := Aside0.mk H
            clear H
            go_enter Try.func3, Try.ntmps3
            go_upto_region 8 with (first | ((with_reducible refine gate_callee (f := 8) rfl ?_); refine goesB (some 27) rfl rfl Try.func8 #[.slice A0 l0.length c0, .slice none 0 0, .int .i64 a1] rfl ?_; (refine (tabs_Pens.calls _ _ l0 _ _ ([] : List Int) a1 t187 t188 _ ?side1 ?side2 ?side3 ?side4 A8.out).mono ?_); (case side1 => repeat (first | exact HR0.out | (with_reducible refine Kd.C_alloc ?_ _) | (with_reducible refine Kd.C_drewN ?_ _) | (with_reducible refine Kd.C_drew ?_))); (case side2 => exact HC0.out); (case side3 => exact Kd.C_nil _ _); (case side4 => exact Nat.le_refl _); rintro e w15 ⟨v189, rfl, ho0, hb⟩; refine ⟨_, rfl, ?_⟩; have HO190 := Aside0.mk (Kd.R_lower ho0 (below_size (bw HB))); replace HB := bh HB hb; (try clear hb); (try clear hb2); (try clear hk); (try clear hi); (try clear ho0); have q16 : ((ji10) : Int) ≤ ((l0.length : Int) : Int) := of_decide_eq_true (by first | (with_reducible assumption) | assumption); obtain ⟨i016, hi016, _, hsz16, _⟩ := info_parts info31; have hroom16 : l0.length ≤ c0 := HC0.out; have hC16 : Kd.C k31 _ A0 l0.length l0 := HR0.out; have hcut16 := cut_to (P := Try.prog) 22 31 .i64 Try.underlying22 hi016 A0 l0.length c0 (ji10) (of_decide_eq_true (by first | (with_reducible assumption) | assumption)) q16 hroom16; have hr16 := Kd.C_take (m := ((ji10) : Int).toNat) hC16 (by omega); have hy16 : y192.length = ((ji10) : Int).toNat := (by rw [Ny192.out, List.length_take]; omega); rw [← Ny192.out] at hr16; rw [← hy16] at hcut16; have HR195 := Aside0.mk hr16; have HC195 := Aside0.mk (show y192.length ≤ c0 from by omega); clear hr16 hC16 hroom16 hi016 hsz16; have KY16 := Aside0.mk hy16; clear hy16; replace q16 := eq_true q16) | ((with_reducible refine gate_callee (f := 8) rfl ?_); refine goesB (some 43) rfl rfl Try.func8 #[.slice A0 y192.length c0, .slice none 0 0, .int .i64 a1] rfl ?_; (refine (tabs_Pens.calls _ _ y192 _ _ ([] : List Int) a1 t196 t197 _ ?side1 ?side2 ?side3 ?side4 A13.out).mono ?_); (case side1 => repeat (first | exact (Kd.C_below HR195.out HB.out) | (with_reducible refine Kd.C_alloc ?_ _) | (with_reducible refine Kd.C_drewN ?_ _) | (with_reducible refine Kd.C_drew ?_))); (case side2 => exact HC195.out); (case side3 => exact Kd.C_nil _ _); (case side4 => exact Nat.le_refl _); rintro e w17 ⟨v198, rfl, ho0, hb⟩; refine ⟨_, rfl, ?_⟩; have HO199 := Aside0.mk (Kd.R_lower (Kd.R_new' ho0 (Kd.R_lt (rx HO190))) (below_size (bw HB))); replace HO190 := Aside0.mk (Kd.R_elder' (rx HO190) (Kd.R_base ho0) hb); replace HB := bh HB hb; (try clear hb); (try clear hb2); (try clear hk); (try clear hi); (try clear ho0)))
            (try simp only [Act.put, List.setIfInBounds_toArray, List.set_cons_zero, List.set_cons_succ])
            go_cut [61] (fun v61 wc => ∃ (kq : Nat) (x61_13 : Bool), v61 = .bool x61_13 ∧ Aside0 (stickfullaw12_TabsParts.j0 kq l0 ji10 t187 t196 x61_13 = some r) ∧ Aside0 (kq ≤ k) ∧ Aside0 (Kd.R (Kd.int .i64) 2 wc w.heap.size (fun k_ => some k_ ≠ (v198 : Value).ownBlock) v189 t187) ∧ Aside0 (Kd.R (Kd.int .i64) 2 wc w.heap.size (fun k_ => some k_ ≠ (v189 : Value).ownBlock) v198 t196) ∧ Aside0 (Below w.heap.size w wc))
            case first =>
              have H := HC14.out
              clear HC14
              by_cases c18 : t197 = 0
              · rw [if_pos c18] at H
                have c18b0 : (t197 == 0) = true := beq_iff_eq.mpr c18
                have c18b1 : (t197 != 0) = false := bne_eq_false_iff_eq.mpr c18
                clear c18
                (first | rw [c18b0] | (simp only [i64_w, i32_w]; rw [c18b0]) | skip)
                by_cases c19 : (t196.length : Int) = (wrap64 ((ji10) + 1))
                · rw [if_pos c19] at H
                  have c19b0 : ((t196.length : Int) == (wrap64 ((ji10) + 1))) = true := beq_iff_eq.mpr c19
                  have c19b1 : ((t196.length : Int) != (wrap64 ((ji10) + 1))) = false := bne_eq_false_iff_eq.mpr c19
                  clear c19
                  by_cases c20 : 0 < (t196.length : Int)
                  · rw [if_pos c20] at H
                    have c20b0 : decide (0 < (t196.length : Int)) = true := decide_eq_true c20
                    have c20b1 : decide (0 < t196.length) = true := decide_eq_true (by omega)
                    clear c20
                    have H' := Aside0.mk H
                    clear H
                    obtain ⟨Ao21, co21, eo21⟩ := Kd.R_slice HO199.out
                    subst eo21
                    have p200 : 0 ≤ (0 : Int) := (by omega)
                    have q200 : 0 < (t196.length : Int) := of_decide_eq_true (by first | (with_reducible assumption) | assumption)
                    obtain ⟨ad200, e200, hx200_0⟩ := Kd.at_int (Kd.R_reads' HO199.out).2.2 0 p200 q200
                    cases e200
                    have qi200 : (0 < t196.length) = True := eq_true (by omega)
                    (try rw [show ((0 : Int)).toNat = 0 from rfl] at hx200_0)
                    (try rw [Addr.add_zero'] at hx200_0)
                    replace p200 := eq_true p200
                    replace q200 := eq_true q200
                    go_wp2
                    go_meet
                    case rel => exact ⟨_, (((rd t196 0) != a1)), (by first | rfl | (simp; done) | (simp [*]; done)), H', ⟨by first | omega | exact Nat.le_refl _⟩, ⟨by (with_reducible repeat (first | apply Kd.R_alloc | apply Kd.R_drewN | apply Kd.R_drew)); exact Kd.R_mono HO190.out (fun _ hk => hk.2)⟩, ⟨by (with_reducible repeat (first | apply Kd.R_alloc | apply Kd.R_drewN | apply Kd.R_drew)); exact Kd.R_mono HO199.out (fun _ hk => hk.2)⟩, ⟨by repeat (first | (with_reducible first | exact HB.out | apply below_alloc | apply pw_below_drewN | apply below_drew1) | exact HB.out)⟩⟩
                  · rw [if_neg c20] at H
                    exact absurd H (by simp)
                · rw [if_neg c19] at H
                  have c19b0 : ((t196.length : Int) == (wrap64 ((ji10) + 1))) = false := beq_eq_false_iff_ne.mpr c19
                  have c19b1 : ((t196.length : Int) != (wrap64 ((ji10) + 1))) = true := bne_iff_ne.mpr c19
                  have H' := Aside0.mk H
                  clear H
                  obtain ⟨Ao22, co22, eo22⟩ := Kd.R_slice HO199.out
                  subst eo22
                  go_wp2
                  go_meet
                  case rel => exact ⟨_, (true), (by first | rfl | (simp; done) | (simp [*]; done)), H', ⟨by first | omega | exact Nat.le_refl _⟩, ⟨by (with_reducible repeat (first | apply Kd.R_alloc | apply Kd.R_drewN | apply Kd.R_drew)); exact Kd.R_mono HO190.out (fun _ hk => hk.2)⟩, ⟨by (with_reducible repeat (first | apply Kd.R_alloc | apply Kd.R_drewN | apply Kd.R_drew)); exact Kd.R_mono HO199.out (fun _ hk => hk.2)⟩, ⟨by repeat (first | (with_reducible first | exact HB.out | apply below_alloc | apply pw_below_drewN | apply below_drew1) | exact HB.out)⟩⟩
              · rw [if_neg c18] at H
                have c18b0 : (t197 == 0) = false := beq_eq_false_iff_ne.mpr c18
                have c18b1 : (t197 != 0) = true := bne_iff_ne.mpr c18
                (first | rw [c18b0] | (simp only [i64_w, i32_w]; rw [c18b0]) | skip)
                have H' := Aside0.mk H
                clear H
                go_wp2
                go_meet
                case rel => exact ⟨_, (true), (by first | rfl | (simp; done) | (simp [*]; done)), H', ⟨by first | omega | exact Nat.le_refl _⟩, ⟨by (with_reducible repeat (first | apply Kd.R_alloc | apply Kd.R_drewN | apply Kd.R_drew)); exact Kd.R_mono HO190.out (fun _ hk => hk.2)⟩, ⟨by (with_reducible repeat (first | apply Kd.R_alloc | apply Kd.R_drewN | apply Kd.R_drew)); exact Kd.R_mono HO199.out (fun _ hk => hk.2)⟩, ⟨by repeat (first | (with_reducible first | exact HB.out | apply below_alloc | apply pw_below_drewN | apply below_drew1) | exact HB.out)⟩⟩
            case rest =>
              clear HC14
              try clear c1
              try clear q1
              try clear c2
              try clear p2
              try clear q2
              try clear hx2
              try clear qi2
              try clear c3
              try clear c4
              try clear c4b0
              try clear c4b1
              try clear p6
              try clear c7
              try clear c7b0
              try clear c7b1
              try clear c8
              try clear c9
              try clear c9b0
              try clear c9b1
              try clear c11
              try clear c11b0
              try clear c11b1
              try clear c12
              try clear c12b0
              try clear c12b1
              try clear q16
              try clear c18
              try clear c18b0
              try clear c18b1
              try clear c19
              try clear c19b0
              try clear c19b1
              try clear c20
              try clear c20b0
              try clear c20b1
              try clear p20
              try clear q20
              try clear hx20
              try clear qi20
              try clear hx200_0
              try clear p200
              try clear q16
              try clear q200
              obtain ⟨kq, x61_13, rfl, HA, HJ13, HO_8, HO_10, HB⟩ := hcut
              cases kq with
              | zero => exact absurd HA.out (by simp [stickfullaw12_TabsParts.j0])
              | succ kj13 =>
                have H := HA.out
                clear HA
                simp only [stickfullaw12_TabsParts.j0] at H
                by_cases c23 : x61_13 = true
                · subst c23
                  have H1 : (some false) = some r := by rw [if_pos rfl] at H; exact H
                  clear H
                  have H := H1
                  clear H1
                  exact absurd ((Option.some.inj H).trans HR_.out) (by decide)
                · replace c23 := Bool.eq_false_iff.mpr c23
                  subst c23
                  have H1 : (if 0 ≤ ji10 then (if ji10 ≤ (l0.length : Int) then (if ji10 < (t196.length : Int) then ((tabs_Pens.f (l0.drop (ji10 : Int).toNat) ([] : List Int) (rd t196 ji10)).bind fun bt206 => (if bt206.2 = 0 then (stickfullaw12_TabsParts.j1 kj13 t187 t196 bt206.1 ((bt206.1.length : Int) != (wrap64 ((wrap64 ((l0.length : Int) - ji10)) + 1)))) else (stickfullaw12_TabsParts.j1 kj13 t187 t196 bt206.1 true))) else (none)) else (none)) else (none)) = some r := by rw [if_neg (show ¬ (false = true) by decide)] at H; exact H
                  clear H
                  have H := H1
                  clear H1
                  by_cases c24 : 0 ≤ ji10
                  · rw [if_pos c24] at H
                    have c24b0 := eq_true c24
                    have c24b1 : decide (0 ≤ ji10) = true := decide_eq_true c24
                    clear c24
                    by_cases c25 : ji10 ≤ (l0.length : Int)
                    · rw [if_pos c25] at H
                      have c25b0 := eq_true c25
                      have c25b1 : decide (ji10 ≤ (l0.length : Int)) = true := decide_eq_true c25
                      clear c25
                      obtain ⟨y201, hy201⟩ : ∃ y_ : List (S31), y_ = (l0.drop (ji10 : Int).toNat) := ⟨_, rfl⟩
                      replace H : (if ji10 < (t196.length : Int) then ((tabs_Pens.f y201 ([] : List Int) (rd t196 ji10)).bind fun bt206 => (if bt206.2 = 0 then (stickfullaw12_TabsParts.j1 kj13 t187 t196 bt206.1 ((bt206.1.length : Int) != (wrap64 ((wrap64 ((l0.length : Int) - ji10)) + 1)))) else (stickfullaw12_TabsParts.j1 kj13 t187 t196 bt206.1 true))) else (none)) = some r := by first | (rw [hy201]; with_reducible exact H) | (have H2_ := (Option.bind_some _ _).symm.trans H; rw [hy201]; with_reducible exact H2_) | (have H2_ := (Option.bind_some _ _).symm.trans H; with_reducible exact H2_) | with_reducible exact H | (rw [hy201]; exact H) | exact H
                      have Ny201 := Aside0.mk hy201
                      clear hy201
                      by_cases c26 : ji10 < (t196.length : Int)
                      · rw [if_pos c26] at H
                        have c26b0 : decide (ji10 < (t196.length : Int)) = true := decide_eq_true c26
                        clear c26
                        replace H := Option.bind_eq_some_iff.mp H
                        obtain ⟨⟨t206, t207⟩, A270, H⟩ := H
                        replace H : (if t207 = 0 then (stickfullaw12_TabsParts.j1 kj13 t187 t196 t206 ((t206.length : Int) != (wrap64 ((wrap64 ((l0.length : Int) - ji10)) + 1)))) else (stickfullaw12_TabsParts.j1 kj13 t187 t196 t206 true)) = some r := H
                        have A27 := Aside0.mk A270
                        clear A270
                        have HC28 := Aside0.mk H
                        clear H
                        try go_wp2
                        replace HO_8 := Aside0.mk (Kd.R_drew HO_8.out)
                        replace HO_10 := Aside0.mk (Kd.R_drew HO_10.out)
                        replace HB := Aside0.mk (below_drew1 HB.out)
                        have q30 : (ji10 : Int) ≤ ((l0.length : Int) : Int) := of_decide_eq_true (by first | (with_reducible assumption) | assumption)
                        obtain ⟨i030, hi030, _, hsz30, _⟩ := info_parts info31
                        have hroom30 : l0.length ≤ c0 := HC0.out
                        have hC30 : Kd.C k31 _ A0 l0.length l0 := HR0.out
                        have q030 : (0 : Int) ≤ (ji10 : Int) := of_decide_eq_true (by first | (with_reducible assumption) | assumption)
                        have hcut30 := cut_from (P := Try.prog) 22 31 .i64 Try.underlying22 hi030 6 hsz30 A0 l0.length c0 ji10 q030 q30
                        have hr30 := Kd.C_drop (m := (ji10 : Int).toNat) (c := c0) hC30 (by omega) hroom30
                        obtain ⟨A30, hA30⟩ : ∃ A1, A1 = (if c0 = (ji10 : Int).toNat then A0 else (A0 : Option Addr).map (·.add ((ji10 : Int).toNat * 6))) := ⟨_, rfl⟩
                        obtain ⟨c30, hc30⟩ : ∃ c1, c1 = c0 - (ji10 : Int).toNat := ⟨_, rfl⟩
                        have hy30 : y201.length = l0.length - (ji10 : Int).toNat := (by rw [Ny201.out, List.length_drop] <;> omega)
                        rw [show (l0).drop (ji10 : Int).toNat = y201 from Ny201.out.symm] at hr30
                        replace hr30 : Kd.C k31 _ A30 y201.length y201 := (by rw [hA30]; exact hr30)
                        rw [← hy30, ← hA30, ← hc30] at hcut30
                        have HR204 := Aside0.mk hr30
                        have HC204 := Aside0.mk (show y201.length ≤ c30 from by rw [hy30, hc30]; exact Nat.sub_le_sub_right hroom30 _)
                        clear hr30 hC30 hroom30 hi030 hsz30 hc30
                        have KY30 := Aside0.mk hy30
                        have KA30 := Aside0.mk hA30
                        clear hy30 hA30
                        replace q30 := eq_true q30
                        obtain ⟨Ao31, co31, eo31⟩ := Kd.R_slice HO_10.out
                        (first | subst eo31 | (injection eo31 with f1_ f2_ f3_; have f4_ := f1_.symm; have f5_ := f3_.symm; clear f1_ f2_ f3_; subst f4_; subst f5_))
                        have p205 : 0 ≤ (ji10 : Int) := of_decide_eq_true (by first | (with_reducible assumption) | assumption)
                        have q205 : ji10 < (t196.length : Int) := of_decide_eq_true (by first | (with_reducible assumption) | assumption)
                        obtain ⟨ad205, e205, hx205_0⟩ := Kd.at_int (Kd.R_reads' HO_10.out).2.2 ji10 p205 q205
                        cases e205
                        replace p205 := eq_true p205
                        replace q205 := eq_true q205
                        refine start_ (n := 13) (S := fun w' => w'.cell? (ad205.add (ji10).toNat) = some (.int .i64 (rd t196 ji10))) (ds := []) #[false, false, false, false, false, false, false, false, false, false, false, false, false] (by kernel_rfl) rfl rfl (hx205_0) (fun hHeld => ?_); refine with_tabW stickfullaw12_TabsParts.tab10 stickfullaw12_TabsParts.bits10 (fun HT_ HW_ => ?_)
                        generalize wc.drew = w29 at HO_8 HO_10 HB HR204 hx205_0 hHeld ⊢
                        refine pure_ (i := 0) (N := some 63) (v := ?_) (a' := ?_) #[true, false, false, false, false, false, false, false, false, false, false, false, false] rfl rfl (any_of HT_.out (by kernel_rfl)) (fun _ _ _ h => h) (Or.inl ⟨by rfl, ?_⟩) ?_ ?_
                        rotate_left
                        · intro w'
                          go_simp
                          with_reducible rfl
                        rotate_left
                        · simp only [Act.put, List.setIfInBounds_toArray, List.set_cons_zero, List.set_cons_succ, i64_w, i32_w]
                          rfl
                        refine pure_ (i := 1) (N := some 64) (v := ?_) (a' := ?_) #[true, true, false, false, false, false, false, false, false, false, false, false, false] rfl rfl (any_of HT_.out (by kernel_rfl)) (fun _ _ _ h => h) (Or.inl ⟨by rfl, ?_⟩) ?_ ?_
                        rotate_left
                        · intro w'
                          go_simp
                          with_reducible rfl
                        rotate_left
                        · simp only [Act.put, List.setIfInBounds_toArray, List.set_cons_zero, List.set_cons_succ, i64_w, i32_w]
                          rfl
                        refine pure_ (i := 2) (N := some 65) (v := ?_) (a' := ?_) #[true, true, true, false, false, false, false, false, false, false, false, false, false] rfl rfl (any_of HT_.out (by kernel_rfl)) (fun _ _ _ h => h) (Or.inl ⟨by rfl, ?_⟩) ?_ ?_
                        rotate_left
                        · intro w'
                          go_simp
                          with_reducible rfl
                        rotate_left
                        · simp only [Act.put, List.setIfInBounds_toArray, List.set_cons_zero, List.set_cons_succ, i64_w, i32_w]
                          rfl
                        refine pure_ (i := 3) (N := some 66) (v := ?_) (a' := ?_) #[true, true, true, true, false, false, false, false, false, false, false, false, false] rfl rfl (any_of HT_.out (by kernel_rfl)) (fun _ _ _ h => h) (Or.inl ⟨by rfl, ?_⟩) ?_ ?_
                        rotate_left
                        · intro w'
                          go_simp
                          with_reducible rfl
                        rotate_left
                        · simp only [Act.put, List.setIfInBounds_toArray, List.set_cons_zero, List.set_cons_succ, i64_w, i32_w]
                          rfl
                        refine pure_ (i := 4) (N := some 67) (v := ?_) (a' := ?_) #[true, true, true, true, true, false, false, false, false, false, false, false, false] rfl rfl (any_of HT_.out (by kernel_rfl)) (fun _ _ _ h => h) (Or.inl ⟨by rfl, ?_⟩) ?_ ?_
                        rotate_left
                        · intro w'
                          go_simp
                          with_reducible rfl
                        rotate_left
                        · simp only [Act.put, List.setIfInBounds_toArray, List.set_cons_zero, List.set_cons_succ, i64_w, i32_w]
                          rfl
                        refine pure_ (i := 5) (N := some 68) (v := ?_) (a' := ?_) #[true, true, true, true, true, true, false, false, false, false, false, false, false] rfl rfl (any_of HT_.out (by kernel_rfl)) (fun _ _ _ h => h) (Or.inl ⟨by rfl, ?_⟩) ?_ ?_
                        rotate_left
                        · intro w'
                          go_simp
                          with_reducible rfl
                        rotate_left
                        · simp only [Act.put, List.setIfInBounds_toArray, List.set_cons_zero, List.set_cons_succ, i64_w, i32_w]
                          rfl
                        refine take_ (i := 6) (N := some 69) (v := ?_) (a' := ?_) #[true, true, true, true, true, true, true, false, false, false, false, false, false] rfl rfl (take_ofW HT_.out HW_.out (by kernel_rfl)) (fun _ _ _ h => h) (Or.inl ⟨by rfl, ?_⟩) hHeld ?_ ?_
                        rotate_left
                        · intro w' s0
                          go_simp
                          with_reducible rfl
                        rotate_left
                        · simp only [Act.put, List.setIfInBounds_toArray, List.set_cons_zero, List.set_cons_succ, i64_w, i32_w]
                          rfl
                        refine one_ (i := 7) (N := some 70) #[true, true, true, true, true, true, true, true, false, false, false, false, false] rfl rfl (one_of HT_.out (by kernel_rfl)) (by decide) (fun K hK => ?_)
                        refine goes_ Try.func8 (by kernel_rfl) rfl #[.slice A30 y201.length c30, .slice none 0 0, .int .i64 (rd t196 ji10)] (by rfl) rfl rfl (by (try simp only [List.map_toArray, List.map_cons, List.map_nil]); first | done | (simp only [hji10]; rfl) | rfl | (simp only [List.length_drop, List.length_take]; rfl)) ?_
                        refine (tabs_Pens.calls _ _ y201 _ _ ([] : List Int) (rd t196 ji10) t206 t207 _ ?side1 ?side2 ?side3 ?side4 A27.out).mono ?_
                        (case side1 => repeat (first | exact (Kd.C_below HR204.out HB.out) | (with_reducible refine Kd.C_alloc ?_ _) | (with_reducible refine Kd.C_drewN ?_ _) | (with_reducible refine Kd.C_drew ?_)))
                        (case side2 => exact HC204.out)
                        (case side3 => exact Kd.C_nil _ _)
                        (case side4 => exact Nat.le_refl _)
                        rintro e w32 ⟨v208, rfl, ho0, hb⟩
                        have HS0_ := (hb.cell (World.block_lt_of_cell? _ _ (hHeld))).trans (hHeld)
                        refine ⟨_, rfl, ?_⟩
                        have HO209 := Aside0.mk (Kd.R_lower (Kd.R_new' (Kd.R_new' ho0 (Kd.R_lt (rx HO_8))) (Kd.R_lt (rx HO_10))) (below_size (bw HB)))
                        replace HO_8 := Aside0.mk (Kd.R_elder' (rx HO_8) (Kd.R_base ho0) hb)
                        replace HO_10 := Aside0.mk (Kd.R_elder' (rx HO_10) (Kd.R_base ho0) hb)
                        replace HB := bh HB hb
                        (try clear hb)
                        (try clear hb2)
                        (try clear hk)
                        (try clear hi)
                        (try clear ho0)
                        refine hK.out _ _ (HS0_) (fun hHeld => ?_)
                        clear hK K
                        refine norm_ (a' := ?_) ?_ ?_
                        rotate_left
                        · show Act.put _ (some 70) _ = _
                          simp only [Act.put, List.setIfInBounds_toArray, List.set_cons_zero, List.set_cons_succ, i64_w, i32_w]
                          rfl
                        refine pure_ (i := 8) (N := some 62) (v := ?_) (a' := ?_) #[true, true, true, true, true, true, true, true, true, false, false, false, false] rfl rfl (any_of HT_.out (by kernel_rfl)) (fun _ _ _ h => h) (Or.inl ⟨by rfl, ?_⟩) ?_ ?_
                        rotate_left
                        · intro w'
                          go_simp
                          with_reducible rfl
                        rotate_left
                        · simp only [Act.put, List.setIfInBounds_toArray, List.set_cons_zero, List.set_cons_succ, i64_w, i32_w]
                          rfl
                        refine pure_ (i := 9) (N := some 71) (v := ?_) (a' := ?_) #[true, true, true, true, true, true, true, true, true, true, false, false, false] rfl rfl (any_of HT_.out (by kernel_rfl)) (fun _ _ _ h => h) (Or.inl ⟨by rfl, ?_⟩) ?_ ?_
                        rotate_left
                        · intro w'
                          go_simp
                          with_reducible rfl
                        rotate_left
                        · simp only [Act.put, List.setIfInBounds_toArray, List.set_cons_zero, List.set_cons_succ, i64_w, i32_w]
                          rfl
                        refine pure_ (i := 10) (N := some 72) (v := ?_) (a' := ?_) #[true, true, true, true, true, true, true, true, true, true, true, false, false] rfl rfl (any_of HT_.out (by kernel_rfl)) (fun _ _ _ h => h) (Or.inl ⟨by rfl, ?_⟩) ?_ ?_
                        rotate_left
                        · intro w'
                          go_simp
                          with_reducible rfl
                        rotate_left
                        · simp only [Act.put, List.setIfInBounds_toArray, List.set_cons_zero, List.set_cons_succ, i64_w, i32_w]
                          rfl
                        refine pure_ (i := 11) (N := some 12) (v := ?_) (a' := ?_) #[true, true, true, true, true, true, true, true, true, true, true, true, false] rfl rfl (any_of HT_.out (by kernel_rfl)) (fun _ _ _ h => h) (Or.inl ⟨by rfl, ?_⟩) ?_ ?_
                        rotate_left
                        · intro w'
                          go_simp
                          with_reducible rfl
                        rotate_left
                        · simp only [Act.put, List.setIfInBounds_toArray, List.set_cons_zero, List.set_cons_succ, i64_w, i32_w]
                          rfl
                        refine pure_ (i := 12) (N := some 13) (v := ?_) (a' := ?_) #[true, true, true, true, true, true, true, true, true, true, true, true, true] rfl rfl (any_of HT_.out (by kernel_rfl)) (fun _ _ _ h => h) (Or.inl ⟨by rfl, ?_⟩) ?_ ?_
                        rotate_left
                        · intro w'
                          go_simp
                          with_reducible rfl
                        rotate_left
                        · simp only [Act.put, List.setIfInBounds_toArray, List.set_cons_zero, List.set_cons_succ, i64_w, i32_w]
                          rfl
                        refine done_ (done_of HT_.out (by kernel_rfl)) ?_
                        go_upto_region 11 with (fail)
                        go_cut [84] (fun v84 wc => ∃ (kq : Nat) (x84_27 : Bool), v84 = .bool x84_27 ∧ Aside0 (stickfullaw12_TabsParts.j1 kq t187 t196 t206 x84_27 = some r) ∧ Aside0 (kq ≤ kj13) ∧ Aside0 (Kd.R (Kd.int .i64) 2 wc w.heap.size (fun k_ => some k_ ≠ ((.slice (some ad205) t196.length co31) : Value).ownBlock ∧ some k_ ≠ (v208 : Value).ownBlock) v189 t187) ∧ Aside0 (Kd.R (Kd.int .i64) 2 wc w.heap.size (fun k_ => some k_ ≠ (v189 : Value).ownBlock ∧ some k_ ≠ (v208 : Value).ownBlock) (.slice (some ad205) t196.length co31) t196) ∧ Aside0 (Kd.R (Kd.int .i64) 2 wc w.heap.size (fun k_ => some k_ ≠ (v189 : Value).ownBlock ∧ some k_ ≠ ((.slice (some ad205) t196.length co31) : Value).ownBlock) v208 t206) ∧ Aside0 (Below w.heap.size w wc))
                        case first =>
                          have H := HC28.out
                          clear HC28
                          by_cases c33 : t207 = 0
                          · rw [if_pos c33] at H
                            have c33b0 : (t207 == 0) = true := beq_iff_eq.mpr c33
                            have c33b1 : (t207 != 0) = false := bne_eq_false_iff_eq.mpr c33
                            clear c33
                            (first | rw [c33b0] | (simp only [i64_w, i32_w]; rw [c33b0]) | skip)
                            have H' := Aside0.mk H
                            clear H
                            obtain ⟨Ao34, co34, eo34⟩ := Kd.R_slice HO209.out
                            subst eo34
                            go_wp2
                            go_meet
                            case rel => exact ⟨_, (((t206.length : Int) != (wrap64 ((wrap64 ((l0.length : Int) - ji10)) + 1)))), (by first | rfl | (simp; done) | (simp only [← hji10] <;> (first | rfl | simp)) | (simp [*]; done)), H', ⟨by have := HJ13.out; first | omega | exact Nat.le_refl _⟩, ⟨by (with_reducible repeat (first | apply Kd.R_alloc | apply Kd.R_drewN | apply Kd.R_drew)); exact HO_8.out⟩, ⟨by (with_reducible repeat (first | apply Kd.R_alloc | apply Kd.R_drewN | apply Kd.R_drew)); exact HO_10.out⟩, ⟨by (with_reducible repeat (first | apply Kd.R_alloc | apply Kd.R_drewN | apply Kd.R_drew)); exact Kd.R_mono HO209.out (fun _ hk => ⟨hk.1.2, hk.2⟩)⟩, ⟨by repeat (first | (with_reducible first | exact HB.out | apply below_alloc | apply pw_below_drewN | apply below_drew1) | exact HB.out)⟩⟩
                          · rw [if_neg c33] at H
                            have c33b0 : (t207 == 0) = false := beq_eq_false_iff_ne.mpr c33
                            have c33b1 : (t207 != 0) = true := bne_iff_ne.mpr c33
                            (first | rw [c33b0] | (simp only [i64_w, i32_w]; rw [c33b0]) | skip)
                            have H' := Aside0.mk H
                            clear H
                            go_wp2
                            go_meet
                            case rel => exact ⟨_, (true), (by first | rfl | (simp; done) | (simp [*]; done)), H', ⟨by have := HJ13.out; first | omega | exact Nat.le_refl _⟩, ⟨by (with_reducible repeat (first | apply Kd.R_alloc | apply Kd.R_drewN | apply Kd.R_drew)); exact HO_8.out⟩, ⟨by (with_reducible repeat (first | apply Kd.R_alloc | apply Kd.R_drewN | apply Kd.R_drew)); exact HO_10.out⟩, ⟨by (with_reducible repeat (first | apply Kd.R_alloc | apply Kd.R_drewN | apply Kd.R_drew)); exact Kd.R_mono HO209.out (fun _ hk => ⟨hk.1.2, hk.2⟩)⟩, ⟨by repeat (first | (with_reducible first | exact HB.out | apply below_alloc | apply pw_below_drewN | apply below_drew1) | exact HB.out)⟩⟩
                        case rest =>
                          clear HC28
                          try clear c1
                          try clear q1
                          try clear c2
                          try clear p2
                          try clear q2
                          try clear hx2
                          try clear qi2
                          try clear c3
                          try clear q3
                          try clear c4
                          try clear c4b0
                          try clear c4b1
                          try clear p6
                          try clear c7
                          try clear c7b0
                          try clear c7b1
                          try clear c8
                          try clear c9
                          try clear c9b0
                          try clear c9b1
                          try clear c11
                          try clear c11b0
                          try clear c11b1
                          try clear c12
                          try clear c12b0
                          try clear c12b1
                          try clear q16
                          try clear c18
                          try clear c18b0
                          try clear c18b1
                          try clear c19
                          try clear c19b0
                          try clear c19b1
                          try clear c20
                          try clear c20b0
                          try clear c20b1
                          try clear p20
                          try clear q20
                          try clear hx20
                          try clear qi20
                          try clear c23
                          try clear c24
                          try clear c24b0
                          try clear c24b1
                          try clear c25
                          try clear c25b0
                          try clear c25b1
                          try clear c26
                          try clear c26b0
                          try clear c30
                          try clear q30
                          try clear c33
                          try clear c33b0
                          try clear c33b1
                          try clear hx200_0
                          try clear hx205_0
                          try clear p2
                          try clear p20
                          try clear p200
                          try clear p205
                          try clear p6
                          try clear q030
                          try clear q1
                          try clear q16
                          try clear q2
                          try clear q20
                          try clear q200
                          try clear q205
                          try clear q30
                          obtain ⟨kq, x84_27, rfl, HA, HJ27, HO_8, HO_10, HO_12, HB⟩ := hcut
                          cases kq with
                          | zero => exact absurd HA.out (by simp [stickfullaw12_TabsParts.j1])
                          | succ kj27 =>
                            have H := HA.out
                            clear HA
                            simp only [stickfullaw12_TabsParts.j1] at H
                            by_cases c35 : x84_27 = true
                            · subst c35
                              have H1 : (some false) = some r := by rw [if_pos rfl] at H; exact H
                              clear H
                              have H := H1
                              clear H1
                              exact absurd ((Option.some.inj H).trans HR_.out) (by decide)
                            · replace c35 := Bool.eq_false_iff.mpr c35
                              subst c35
                              have H1 : ((some (([] : List Int) : List Int)).bind fun y210 => (if y210.length + t196.length < 17592186044416 then ((some (y210 ++ t196 : List Int)).bind fun y213 => (if 1 ≤ (t206.length : Int) then ((some (t206.drop 1 : List Int)).bind fun y216 => (if y213.length + y216.length < 17592186044416 then ((stickfulref12_Same.f kj27 (y213 ++ y216) t187).bind fun t223 => (if t223 = true then ((stickfullaw12_head.f kj27).bind fun t224 => (some t224)) else (some false))) else (none))) else (none))) else (none))) = some r := by rw [if_neg (show ¬ (false = true) by decide)] at H; exact H
                              clear H
                              have H := H1
                              clear H1
                              obtain ⟨y210, hy210⟩ : ∃ y_ : List Int, y_ = (([] : List Int)) := ⟨_, rfl⟩
                              replace H : (if y210.length + t196.length < 17592186044416 then ((some (y210 ++ t196 : List Int)).bind fun y213 => (if 1 ≤ (t206.length : Int) then ((some (t206.drop 1 : List Int)).bind fun y216 => (if y213.length + y216.length < 17592186044416 then ((stickfulref12_Same.f kj27 (y213 ++ y216) t187).bind fun t223 => (if t223 = true then ((stickfullaw12_head.f kj27).bind fun t224 => (some t224)) else (some false))) else (none))) else (none))) else (none)) = some r := by first | (rw [hy210]; with_reducible exact H) | (have H2_ := (Option.bind_some _ _).symm.trans H; rw [hy210]; with_reducible exact H2_) | (have H2_ := (Option.bind_some _ _).symm.trans H; with_reducible exact H2_) | with_reducible exact H | (rw [hy210]; exact H) | exact H
                              have Ny210 := Aside0.mk hy210
                              clear hy210
                              by_cases c36 : y210.length + t196.length < 17592186044416
                              · rw [if_pos c36] at H
                                have LMc36 := Aside0.mk c36
                                clear c36
                                obtain ⟨y213, hy213⟩ : ∃ y_ : List Int, y_ = (y210 ++ t196) := ⟨_, rfl⟩
                                replace H : (if 1 ≤ (t206.length : Int) then ((some (t206.drop 1 : List Int)).bind fun y216 => (if y213.length + y216.length < 17592186044416 then ((stickfulref12_Same.f kj27 (y213 ++ y216) t187).bind fun t223 => (if t223 = true then ((stickfullaw12_head.f kj27).bind fun t224 => (some t224)) else (some false))) else (none))) else (none)) = some r := by first | (rw [hy213]; with_reducible exact H) | (have H2_ := (Option.bind_some _ _).symm.trans H; rw [hy213]; with_reducible exact H2_) | (have H2_ := (Option.bind_some _ _).symm.trans H; with_reducible exact H2_) | with_reducible exact H | (rw [hy213]; exact H) | exact H
                                have Ny213 := Aside0.mk hy213
                                clear hy213
                                by_cases c37 : 1 ≤ (t206.length : Int)
                                · rw [if_pos c37] at H
                                  have c37b0 := eq_true c37
                                  have c37b1 : decide (1 ≤ (t206.length : Int)) = true := decide_eq_true c37
                                  clear c37
                                  obtain ⟨y216, hy216⟩ : ∃ y_ : List Int, y_ = (t206.drop 1) := ⟨_, rfl⟩
                                  replace H : (if y213.length + y216.length < 17592186044416 then ((stickfulref12_Same.f kj27 (y213 ++ y216) t187).bind fun t223 => (if t223 = true then ((stickfullaw12_head.f kj27).bind fun t224 => (some t224)) else (some false))) else (none)) = some r := by first | (rw [hy216]; with_reducible exact H) | (have H2_ := (Option.bind_some _ _).symm.trans H; rw [hy216]; with_reducible exact H2_) | (have H2_ := (Option.bind_some _ _).symm.trans H; with_reducible exact H2_) | with_reducible exact H | (rw [hy216]; exact H) | exact H
                                  have Ny216 := Aside0.mk hy216
                                  clear hy216
                                  by_cases c38 : y213.length + y216.length < 17592186044416
                                  · rw [if_pos c38] at H
                                    have LMc38 := Aside0.mk c38
                                    clear c38
                                    obtain ⟨y220, hy220⟩ : ∃ y_ : List Int, y_ = (y213 ++ y216) := ⟨_, rfl⟩
                                    replace H : ((stickfulref12_Same.f kj27 y220 t187).bind fun t223 => (if t223 = true then ((stickfullaw12_head.f kj27).bind fun t224 => (some t224)) else (some false))) = some r := by first | (rw [hy220]; with_reducible exact H) | (have H2_ := (Option.bind_some _ _).symm.trans H; rw [hy220]; with_reducible exact H2_) | (have H2_ := (Option.bind_some _ _).symm.trans H; with_reducible exact H2_) | with_reducible exact H | (rw [hy220]; exact H) | exact H
                                    have Ny220 := Aside0.mk hy220
                                    clear hy220
                                    replace H := Option.bind_eq_some_iff.mp H
                                    obtain ⟨t223, A390, H⟩ := H
                                    replace H : (if t223 = true then ((stickfullaw12_head.f kj27).bind fun t224 => (some t224)) else (some false)) = some r := H
                                    have A39 := Aside0.mk A390
                                    clear A390
                                    by_cases c40 : t223 = true
                                    · subst c40
                                      have H1 : ((stickfullaw12_head.f kj27).bind fun t224 => (some t224)) = some r := by rw [if_pos rfl] at H; exact H
                                      clear H
                                      have H := H1
                                      clear H1
                                      replace H := Option.bind_eq_some_iff.mp H
                                      obtain ⟨t224, A410, H⟩ := H
                                      replace H : (some t224) = some r := H
                                      have A41 := Aside0.mk A410
                                      clear A410
                                      obtain rfl := Option.some.inj H
                                      try go_wp2
                                      replace HO_8 := Aside0.mk (Kd.R_drew HO_8.out)
                                      replace HO_10 := Aside0.mk (Kd.R_drew HO_10.out)
                                      replace HO_12 := Aside0.mk (Kd.R_drew HO_12.out)
                                      replace HB := Aside0.mk (below_drew1 HB.out)
                                      obtain ⟨Ao44, co44, eo44⟩ := Kd.R_slice HO_12.out
                                      (first | subst eo44 | (injection eo44 with f1_ f2_ f3_; have f4_ := f1_.symm; have f5_ := f3_.symm; clear f1_ f2_ f3_; subst f4_; subst f5_))
                                      have q43 : (1 : Int) ≤ ((t206.length : Int) : Int) := of_decide_eq_true (by first | (with_reducible assumption) | assumption)
                                      obtain ⟨i043, hi043, _, hsz43, _⟩ := info_parts info2
                                      have hroom43 : t206.length ≤ co44 := (Kd.R_reads' HO_12.out).2.1
                                      have hC43 : Kd.C (Kd.int .i64) _ Ao44 t206.length t206 := (Kd.R_reads' HO_12.out).2.2
                                      have hcut43 := cut_from (P := Try.prog) 24 2 .i64 Try.underlying24 hi043 1 hsz43 Ao44 t206.length co44 1 (by omega) q43
                                      have hr43 := Kd.C_drop (m := (1 : Int).toNat) (c := co44) hC43 (by omega) hroom43
                                      obtain ⟨A43, hA43⟩ : ∃ A1, A1 = (if co44 = (1 : Int).toNat then Ao44 else (Ao44 : Option Addr).map (·.add ((1 : Int).toNat * 1))) := ⟨_, rfl⟩
                                      obtain ⟨c43, hc43⟩ : ∃ c1, c1 = co44 - (1 : Int).toNat := ⟨_, rfl⟩
                                      have hy43 : y216.length = t206.length - (1 : Int).toNat := (by rw [Ny216.out, List.length_drop] <;> omega)
                                      rw [show (t206).drop (1 : Int).toNat = y216 from Ny216.out.symm] at hr43
                                      replace hr43 : Kd.C (Kd.int .i64) _ A43 y216.length y216 := (by rw [hA43]; exact hr43)
                                      rw [← hy43, ← hA43, ← hc43] at hcut43
                                      have HR219 := Aside0.mk hr43
                                      have HC219 := Aside0.mk (show y216.length ≤ c43 from by rw [hy43, hc43]; exact Nat.sub_le_sub_right hroom43 _)
                                      clear hr43 hC43 hroom43 hi043 hsz43 hc43
                                      have KY43 := Aside0.mk hy43
                                      have KA43 := Aside0.mk hA43
                                      clear hy43 hA43
                                      have KL43 := Aside0.mk (show 1 ≤ t206.length from by omega)
                                      replace q43 := eq_true q43
                                      refine start_ (n := 12) (S := fun w' => True) (ds := []) #[false, false, false, false, false, false, false, false, false, false, false, false] (by kernel_rfl) rfl rfl trivial (fun hHeld => ?_); refine with_tabW stickfullaw12_TabsParts.tab13 stickfullaw12_TabsParts.bits13 (fun HT_ HW_ => ?_)
                                      generalize wc.drew = w42 at HO_8 HO_10 HO_12 HB HR219 hHeld ⊢
                                      refine pure_ (i := 1) (N := some 86) (v := ?_) (a' := ?_) #[false, true, false, false, false, false, false, false, false, false, false, false] rfl rfl (any_of HT_.out (by kernel_rfl)) (fun _ _ _ h => h) (Or.inl ⟨by rfl, ?_⟩) ?_ ?_
                                      rotate_left
                                      · intro w'
                                        go_simp
                                        with_reducible rfl
                                      rotate_left
                                      · simp only [Act.put, List.setIfInBounds_toArray, List.set_cons_zero, List.set_cons_succ, i64_w, i32_w]
                                        rfl
                                      refine pure_ (i := 3) (N := some 88) (v := ?_) (a' := ?_) #[false, true, false, true, false, false, false, false, false, false, false, false] rfl rfl (any_of HT_.out (by kernel_rfl)) (fun _ _ _ h => h) (Or.inl ⟨by rfl, ?_⟩) ?_ ?_
                                      rotate_left
                                      · intro w'
                                        go_simp
                                        with_reducible rfl
                                      rotate_left
                                      · simp only [Act.put, List.setIfInBounds_toArray, List.set_cons_zero, List.set_cons_succ, i64_w, i32_w]
                                        rfl
                                      refine pure_ (i := 4) (N := some 89) (v := ?_) (a' := ?_) #[false, true, false, true, true, false, false, false, false, false, false, false] rfl rfl (any_of HT_.out (by kernel_rfl)) (fun _ _ _ h => h) (Or.inl ⟨by rfl, ?_⟩) ?_ ?_
                                      rotate_left
                                      · intro w'
                                        go_simp
                                        with_reducible rfl
                                      rotate_left
                                      · simp only [Act.put, List.setIfInBounds_toArray, List.set_cons_zero, List.set_cons_succ, i64_w, i32_w]
                                        rfl
                                      refine pure_ (i := 6) (N := some 91) (v := ?_) (a' := ?_) #[false, true, false, true, true, false, true, false, false, false, false, false] rfl rfl (any_of HT_.out (by kernel_rfl)) (fun _ _ _ h => h) (Or.inl ⟨by rfl, ?_⟩) ?_ ?_
                                      rotate_left
                                      · intro w'
                                        go_simp
                                        with_reducible rfl
                                      rotate_left
                                      · simp only [Act.put, List.setIfInBounds_toArray, List.set_cons_zero, List.set_cons_succ, i64_w, i32_w]
                                        rfl
                                      refine one_ (i := 0) (N := some 85) #[true, true, false, true, true, false, true, false, false, false, false, false] rfl rfl (one_of HT_.out (by kernel_rfl)) (by decide) (fun K hK => ?_)
                                      refine Kd.R_lit_step (Kd.int .i64) _ 2 ?hg (N := 85) ?hd (xs := ([] : List Int)) (inner := []) (ok := fun _ => True) (okp := fun _ => True) ?hr ?hp (fun _ hk => hk) trivial (Below.refl _ _) (Nat.le_refl _) (by simp) ?_; (case hd => rfl); (case hg => rfl); (case hr => first | (go_simp; done) | (go_simp; rfl)); (case hp => exact (Reps.none _ _))
                                      intro v211 w45 ho46 hb hg_ hnew_
                                      clear hg_ hnew_
                                      (first | rw [← Ny210.out] at ho46 | (simp only [Int.reduceToNat] at ho46; rw [← Ny210.out] at ho46))
                                      have HO212 := Aside0.mk (Kd.R_lower (Kd.R_new' (Kd.R_new' (Kd.R_new' ho46 (Kd.R_lt (rx HO_8))) (Kd.R_lt (rx HO_10))) (Kd.R_lt (rx HO_12))) (below_size (bw HB)))
                                      replace HO_8 := Aside0.mk (Kd.R_elder' (rx HO_8) (Kd.R_base ho46) hb)
                                      replace HO_10 := Aside0.mk (Kd.R_elder' (rx HO_10) (Kd.R_base ho46) hb)
                                      replace HO_12 := Aside0.mk (Kd.R_elder' (rx HO_12) (Kd.R_base ho46) hb)
                                      replace HR219 := Aside0.mk (Kd.C_below (by repeat (first | (with_reducible exact HR219.out) | (with_reducible refine Kd.C_alloc ?_ _) | (with_reducible refine Kd.C_drewN ?_ _) | (with_reducible refine Kd.C_drew ?_) | exact HR219.out)) hb)
                                      replace HB := bh HB hb
                                      clear hb ho46
                                      refine hK.out _ _ trivial (fun hHeld => ?_)
                                      clear hK K
                                      refine norm_ (a' := ?_) ?_ ?_
                                      rotate_left
                                      · show Act.put _ (some 85) _ = _
                                        simp only [Act.put, List.setIfInBounds_toArray, List.set_cons_zero, List.set_cons_succ, i64_w, i32_w]
                                        rfl
                                      refine one_ (i := 2) (N := some 87) #[true, true, true, true, true, false, true, false, false, false, false, false] rfl rfl (one_of HT_.out (by kernel_rfl)) (by decide) (fun K hK => ?_)
                                      refine Kd.R_append_rows_step (Kd.int .i64) (w0 := w) w.heap.size (by rfl) (.tmp 85) (.tmp 86) 24 2 (.int .i64 0) 8 rfl Try.underlying24 info2 rfl (by decide) (by omega) v211 y210 t196 _ _ _ (fun k_ => some k_ ≠ (v189 : Value).ownBlock ∧ some k_ ≠ (.slice (some ad205) t196.length co31 : Value).ownBlock ∧ some k_ ≠ (.slice Ao44 t206.length co44 : Value).ownBlock) (fun _ => False) rfl rfl ?aO ?aR (fun _ _ h => h) (fun _ h => h.elim) ?aF ?aB ?aS ?aL ?_
                                      (case aR => repeat (first | exact (Kd.R_reads' HO_10.out).2.2 | (with_reducible refine Kd.C_alloc ?_ _) | (with_reducible refine Kd.C_drewN ?_ _) | (with_reducible refine Kd.C_drew ?_)))
                                      (case aB => exact (bw HB))
                                      (case aF => exact (fun k_ hk => ⟨Kd.fresh' (Kd.R_lt (rx HO_8)) k_ hk, Kd.fresh' (Kd.R_lt (rx HO_10)) k_ hk, Kd.fresh' (Kd.R_lt (rx HO_12)) k_ hk⟩))
                                      (case aO => exact (by (with_reducible repeat (first | apply Kd.R_alloc | apply Kd.R_drewN | apply Kd.R_drew)); exact Kd.R_mono HO212.out (fun _ hk => ⟨hk.1.1.2, ⟨hk.1.2, hk.2⟩⟩)))
                                      (case aS => exact (below_size (bw HB)))
                                      (case aL => have := LMc36.out; omega)
                                      intro v214 w47 ho hb hg hat
                                      rw [← Ny213.out] at ho
                                      replace HO_8 := Aside0.mk (Kd.R_after (ok := (fun k_ => some k_ ≠ (.slice (some ad205) t196.length co31 : Value).ownBlock ∧ some k_ ≠ (.slice Ao44 t206.length co44 : Value).ownBlock)) (rx HO_8) hg hat)
                                      replace HO_10 := Aside0.mk (Kd.R_after (ok := (fun k_ => some k_ ≠ (v189 : Value).ownBlock ∧ some k_ ≠ (.slice Ao44 t206.length co44 : Value).ownBlock)) (rx HO_10) hg hat)
                                      replace HB := Aside0.mk (hb)
                                      replace HR219 := Aside0.mk ((show Kd.C (Kd.int .i64) w47 A43 y216.length y216 from by rw [Ny216.out, KA43.out]; exact Kd.C_drop (m := 1) (c := co44) ((Kd.R_reads' (Kd.R_after (ok := (fun k_ => some k_ ≠ (v189 : Value).ownBlock ∧ some k_ ≠ (.slice (some ad205) t196.length co31 : Value).ownBlock)) (rx HO_12) hg hat)).2.2) KL43.out ((Kd.R_reads' (Kd.R_after (ok := (fun k_ => some k_ ≠ (v189 : Value).ownBlock ∧ some k_ ≠ (.slice (some ad205) t196.length co31 : Value).ownBlock)) (rx HO_12) hg hat)).2.1)))
                                      replace HO_12 := Aside0.mk (Kd.R_after (ok := (fun k_ => some k_ ≠ (v189 : Value).ownBlock ∧ some k_ ≠ (.slice (some ad205) t196.length co31 : Value).ownBlock)) (rx HO_12) hg hat)
                                      have HO215 := Aside0.mk (ho)
                                      clear HO212
                                      clear ho hb hg hat
                                      refine hK.out _ _ trivial (fun hHeld => ?_)
                                      clear hK K
                                      refine norm_ (a' := ?_) ?_ ?_
                                      rotate_left
                                      · show Act.put _ (some 87) _ = _
                                        simp only [Act.put, List.setIfInBounds_toArray, List.set_cons_zero, List.set_cons_succ, i64_w, i32_w]
                                        rfl
                                      refine one_ (i := 5) (N := some 90) #[true, true, true, true, true, true, true, false, false, false, false, false] rfl rfl (one_of HT_.out (by kernel_rfl)) (by decide) (fun K hK => ?_)
                                      refine Kd.R_append_rows_step (Kd.int .i64) (w0 := w) w.heap.size (by rfl) (.tmp 87) (.tmp 89) 24 2 (.int .i64 0) 8 rfl Try.underlying24 info2 rfl (by decide) (by omega) v214 y213 y216 _ _ _ (fun k_ => some k_ ≠ (v189 : Value).ownBlock ∧ some k_ ≠ (.slice (some ad205) t196.length co31 : Value).ownBlock ∧ some k_ ≠ (.slice Ao44 t206.length co44 : Value).ownBlock) (fun _ => False) rfl rfl ?aO ?aR (fun _ _ h => h) (fun _ h => h.elim) ?aF ?aB ?aS ?aL ?_
                                      (case aR => repeat (first | exact (by repeat (first | (with_reducible exact HR219.out) | (with_reducible refine Kd.C_alloc ?_ _) | (with_reducible refine Kd.C_drewN ?_ _) | (with_reducible refine Kd.C_drew ?_) | exact HR219.out)) | (with_reducible refine Kd.C_alloc ?_ _) | (with_reducible refine Kd.C_drewN ?_ _) | (with_reducible refine Kd.C_drew ?_)))
                                      (case aB => exact (bw HB))
                                      (case aF => exact (fun k_ hk => ⟨Kd.fresh' (Kd.R_lt (rx HO_8)) k_ hk, Kd.fresh' (Kd.R_lt (rx HO_10)) k_ hk, Kd.fresh' (Kd.R_lt (rx HO_12)) k_ hk⟩))
                                      (case aO => exact (rx HO215))
                                      (case aS => exact (below_size (bw HB)))
                                      (case aL => have := LMc38.out; omega)
                                      intro v221 w48 ho hb hg hat
                                      rw [← Ny220.out] at ho
                                      replace HO_8 := Aside0.mk (Kd.R_after (ok := (fun k_ => some k_ ≠ (.slice (some ad205) t196.length co31 : Value).ownBlock ∧ some k_ ≠ (.slice Ao44 t206.length co44 : Value).ownBlock)) (rx HO_8) hg hat)
                                      replace HO_10 := Aside0.mk (Kd.R_after (ok := (fun k_ => some k_ ≠ (v189 : Value).ownBlock ∧ some k_ ≠ (.slice Ao44 t206.length co44 : Value).ownBlock)) (rx HO_10) hg hat)
                                      replace HB := Aside0.mk (hb)
                                      replace HR219 := Aside0.mk ((show Kd.C (Kd.int .i64) w48 A43 y216.length y216 from by rw [Ny216.out, KA43.out]; exact Kd.C_drop (m := 1) (c := co44) ((Kd.R_reads' (Kd.R_after (ok := (fun k_ => some k_ ≠ (v189 : Value).ownBlock ∧ some k_ ≠ (.slice (some ad205) t196.length co31 : Value).ownBlock)) (rx HO_12) hg hat)).2.2) KL43.out ((Kd.R_reads' (Kd.R_after (ok := (fun k_ => some k_ ≠ (v189 : Value).ownBlock ∧ some k_ ≠ (.slice (some ad205) t196.length co31 : Value).ownBlock)) (rx HO_12) hg hat)).2.1)))
                                      replace HO_12 := Aside0.mk (Kd.R_after (ok := (fun k_ => some k_ ≠ (v189 : Value).ownBlock ∧ some k_ ≠ (.slice (some ad205) t196.length co31 : Value).ownBlock)) (rx HO_12) hg hat)
                                      have HO222 := Aside0.mk (ho)
                                      clear HO215
                                      clear ho hb hg hat
                                      obtain ⟨Ao49, co49, eo49⟩ := Kd.R_slice HO222.out
                                      (first | subst eo49 | (injection eo49 with f1_ f2_ f3_; have f4_ := f1_.symm; have f5_ := f3_.symm; clear f1_ f2_ f3_; subst f4_; subst f5_))
                                      obtain ⟨Ao50, co50, eo50⟩ := Kd.R_slice HO_8.out
                                      (first | subst eo50 | (injection eo50 with f1_ f2_ f3_; have f4_ := f1_.symm; have f5_ := f3_.symm; clear f1_ f2_ f3_; subst f4_; subst f5_))
                                      refine hK.out _ _ trivial (fun hHeld => ?_)
                                      clear hK K
                                      refine norm_ (a' := ?_) ?_ ?_
                                      rotate_left
                                      · show Act.put _ (some 90) _ = _
                                        simp only [Act.put, List.setIfInBounds_toArray, List.set_cons_zero, List.set_cons_succ, i64_w, i32_w]
                                        rfl
                                      refine one_ (i := 7) (N := some 92) #[true, true, true, true, true, true, true, true, false, false, false, false] rfl rfl (one_of HT_.out (by kernel_rfl)) (by decide) (fun K hK => ?_)
                                      refine goes_ Try.func9 (by kernel_rfl) rfl #[.slice Ao49 y220.length co49, .slice Ao50 t187.length co50] (by rfl) rfl rfl (by (try simp only [List.map_toArray, List.map_cons, List.map_nil]); first | done | rfl | (simp only [List.length_drop, List.length_take]; rfl)) ?_
                                      with_reducible refine (stickfulref12_Same.calls kj27 _ _ y220 _ _ t187 true _ ?side1 ?side2 ?side3 ?side4 A39.out).mono ?_
                                      (case side1 => repeat (first | exact (Kd.R_reads' HO222.out).2.2 | (with_reducible refine Kd.C_alloc ?_ _) | (with_reducible refine Kd.C_drewN ?_ _) | (with_reducible refine Kd.C_drew ?_)))
                                      (case side2 => exact (Kd.R_reads' HO222.out).2.1)
                                      (case side3 => repeat (first | exact (Kd.R_reads' HO_8.out).2.2 | (with_reducible refine Kd.C_alloc ?_ _) | (with_reducible refine Kd.C_drewN ?_ _) | (with_reducible refine Kd.C_drew ?_)))
                                      (case side4 => exact (Kd.R_reads' HO_8.out).2.1)
                                      rintro e w' ⟨rfl, ⟨nd, rfl⟩⟩
                                      refine ⟨_, rfl, ?_⟩
                                      refine hK.out _ _ trivial (fun hHeld => ?_)
                                      clear hK K
                                      refine norm_ (a' := ?_) ?_ ?_
                                      rotate_left
                                      · show Act.put _ (some 92) _ = _
                                        simp only [Act.put, List.setIfInBounds_toArray, List.set_cons_zero, List.set_cons_succ, i64_w, i32_w]
                                        rfl
                                      refine pure_ (i := 8) (N := some 93) (v := ?_) (a' := ?_) #[true, true, true, true, true, true, true, true, true, false, false, false] rfl rfl (any_of HT_.out (by kernel_rfl)) (fun _ _ _ h => h) (Or.inl ⟨by rfl, ?_⟩) ?_ ?_
                                      rotate_left
                                      · intro w'
                                        go_simp
                                        with_reducible rfl
                                      rotate_left
                                      · simp only [Act.put, List.setIfInBounds_toArray, List.set_cons_zero, List.set_cons_succ, i64_w, i32_w]
                                        rfl
                                      refine one_ (i := 9) (N := some 94) #[true, true, true, true, true, true, true, true, true, true, false, false] rfl rfl (one_of HT_.out (by kernel_rfl)) (by decide) (fun K hK => ?_)
                                      refine goes_ Try.func7 (by kernel_rfl) rfl #[] (by rfl) rfl rfl (by (try simp only [List.map_toArray, List.map_cons, List.map_nil]); first | done | rfl | (simp only [List.length_drop, List.length_take]; rfl)) ?_
                                      with_reducible refine (stickfullaw12_head.calls kj27  t224 _ A41.out).mono ?_
                                      rintro e w51 ⟨rfl, hb⟩
                                      refine ⟨_, rfl, ?_⟩
                                      replace HO_8 := Aside0.mk (Kd.R_below (rx HO_8) hb)
                                      replace HO_10 := Aside0.mk (Kd.R_below (rx HO_10) hb)
                                      replace HO_12 := Aside0.mk (Kd.R_below (rx HO_12) hb)
                                      replace HO222 := Aside0.mk (Kd.R_below (rx HO222) hb)
                                      replace HR219 := Aside0.mk (Kd.C_below (by repeat (first | (with_reducible exact HR219.out) | (with_reducible refine Kd.C_alloc ?_ _) | (with_reducible refine Kd.C_drewN ?_ _) | (with_reducible refine Kd.C_drew ?_) | exact HR219.out)) hb)
                                      replace HB := bh HB hb
                                      (try clear hb)
                                      (try clear hb2)
                                      (try clear hk)
                                      (try clear hi)
                                      refine hK.out _ _ trivial (fun hHeld => ?_)
                                      clear hK K
                                      refine norm_ (a' := ?_) ?_ ?_
                                      rotate_left
                                      · show Act.put _ (some 94) _ = _
                                        simp only [Act.put, List.setIfInBounds_toArray, List.set_cons_zero, List.set_cons_succ, i64_w, i32_w]
                                        rfl
                                      refine pure_ (i := 10) (N := some 95) (v := ?_) (a' := ?_) #[true, true, true, true, true, true, true, true, true, true, true, false] rfl rfl (any_of HT_.out (by kernel_rfl)) (fun _ _ _ h => h) (Or.inl ⟨by rfl, ?_⟩) ?_ ?_
                                      rotate_left
                                      · intro w'
                                        go_simp
                                        with_reducible rfl
                                      rotate_left
                                      · simp only [Act.put, List.setIfInBounds_toArray, List.set_cons_zero, List.set_cons_succ, i64_w, i32_w]
                                        rfl
                                      refine pure_ (i := 11) (N := some 6) (v := ?_) (a' := ?_) #[true, true, true, true, true, true, true, true, true, true, true, true] rfl rfl (any_of HT_.out (by kernel_rfl)) (fun _ _ _ h => h) (Or.inl ⟨by rfl, ?_⟩) ?_ ?_
                                      rotate_left
                                      · intro w'
                                        go_simp
                                        with_reducible rfl
                                      rotate_left
                                      · simp only [Act.put, List.setIfInBounds_toArray, List.set_cons_zero, List.set_cons_succ, i64_w, i32_w]
                                        rfl
                                      refine done_ (done_of HT_.out (by kernel_rfl)) ?_
                                      try go_wp2
                                      go_ret
                                      exact ⟨by first | rfl | (simp [errW_none, errW_some] <;> rfl) | (simp only [← hji10]; first | rfl | (simp [errW_none, errW_some] <;> rfl)) | (simp [*, errW_none, errW_some] <;> rfl), by repeat (first | (with_reducible first | exact HB.out | apply below_alloc | apply pw_below_drewN | apply below_drew1) | exact HB.out)⟩
                                    · replace c40 := Bool.eq_false_iff.mpr c40
                                      subst c40
                                      have H1 : (some false) = some r := by rw [if_neg (show ¬ (false = true) by decide)] at H; exact H
                                      clear H
                                      have H := H1
                                      clear H1
                                      exact absurd ((Option.some.inj H).trans HR_.out) (by decide)
                                  · rw [if_neg c38] at H
                                    exact absurd H (by simp)
                                · rw [if_neg c37] at H
                                  exact absurd H (by simp)
                              · rw [if_neg c36] at H
                                exact absurd H (by simp)
                      · rw [if_neg c26] at H
                        exact absurd H (by simp)
                    · rw [if_neg c25] at H
                      exact absurd H (by simp)
                  · rw [if_neg c24] at H
                    exact absurd H (by simp)
          · rw [if_neg c12] at H
            exact absurd H (by simp)
        · rw [if_neg c11] at H
          exact absurd H (by simp)
      · rw [if_neg c9] at H
        have c9b0 : (t188 == 0) = false := beq_eq_false_iff_ne.mpr c9
        have c9b1 : (t188 != 0) = true := bne_iff_ne.mpr c9
        by_cases c52 : (t187.length : Int) = 0
        · rw [if_pos c52] at H
          have c52b0 : ((t187.length : Int) == 0) = true := beq_iff_eq.mpr c52
          have c52b1 : ((t187.length : Int) != 0) = false := bne_eq_false_iff_eq.mpr c52
          clear c52
          replace H := Option.bind_eq_some_iff.mp H
          obtain ⟨t191, A530, H⟩ := H
          replace H : (some t191) = some r := H
          have A53 := Aside0.mk A530
          clear A530
          obtain rfl := Option.some.inj H
          go_enter Try.func3, Try.ntmps3
          go_wp2_with (first | ((with_reducible refine gate_callee (f := 8) rfl ?_); refine goesB (some 27) rfl rfl Try.func8 #[.slice A0 l0.length c0, .slice none 0 0, .int .i64 a1] rfl ?_; (refine (tabs_Pens.calls _ _ l0 _ _ ([] : List Int) a1 t187 t188 _ ?side1 ?side2 ?side3 ?side4 A8.out).mono ?_); (case side1 => repeat (first | exact HR0.out | (with_reducible refine Kd.C_alloc ?_ _) | (with_reducible refine Kd.C_drewN ?_ _) | (with_reducible refine Kd.C_drew ?_))); (case side2 => exact HC0.out); (case side3 => exact Kd.C_nil _ _); (case side4 => exact Nat.le_refl _); rintro e w54 ⟨v189, rfl, ho0, hb⟩; refine ⟨_, rfl, ?_⟩; have HO190 := Aside0.mk (Kd.R_lower ho0 (below_size (bw HB))); replace HB := bh HB hb; (try clear hb); (try clear hb2); (try clear hk); (try clear hi); (try clear ho0); obtain ⟨Ao55, co55, eo55⟩ := Kd.R_slice HO190.out; subst eo55) | (go_at_call 7; (with_reducible refine (stickfullaw12_head.calls k  t191 _ A53.out).mono ?_); rintro e w56 ⟨rfl, hb⟩; replace HO190 := Aside0.mk (Kd.R_below (rx HO190) hb); replace HB := bh HB hb; (try clear hb); (try clear hb2); (try clear hk); (try clear hi)))
          go_ret
          exact ⟨by first | rfl | (simp [errW_none, errW_some] <;> rfl) | (simp [*, errW_none, errW_some] <;> rfl), by repeat (first | (with_reducible first | exact HB.out | apply below_alloc | apply pw_below_drewN | apply below_drew1) | exact HB.out)⟩
        · rw [if_neg c52] at H
          have c52b0 : ((t187.length : Int) == 0) = false := beq_eq_false_iff_ne.mpr c52
          have c52b1 : ((t187.length : Int) != 0) = true := bne_iff_ne.mpr c52
          have c52b2 : ¬ (t187 = []) := fun h_ => c52 (by rw [h_]; rfl)
          exact absurd ((Option.some.inj H).trans HR_.out) (by decide)

end Go.Proofs.Ytdkhjhckdjhiiaa.HTabs
