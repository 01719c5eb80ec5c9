-- Written by this claim's own program over the kit's print.
import Derived.Test.YtkaiibipcnlaiaaHEllWb
import Derived.Test.YtkaiibipcnlaiaaHEllWx0
import Derived.Test.YtkaiibipcnlaiaaHEllWx5
import Derived.Test.YtkaiibipcnlaiaaHEllWx15
import Derived.Test.YtkaiibipcnlaiaaHEllWx17
namespace Go.Proofs.Ytkaiibipcnlaiaa.HEllW
open Go.RowKit Go.Proofs.YtkaiibipcnlaiaaW.PrintWords Go.Proofs.YtkaiibipcnlaiaaW.PrintLast Go.Proofs.YtkaiibipcnlaiaaW.PrintMore Go.Proofs.Ytkaiibipcnlaiaa.Hand
attribute [local go_sem] max2_int min2_int max_two min_two max_three min_three max_four min_four   -- for this text's walks alone
set_option linter.unusedVariables false
set_option linter.unusedSimpArgs false

/-! ### stickfullaw26_EllipsisWhole: function 4 -/
def stickfullaw26_EllipsisWhole.j0 : Nat → List (S78) → List (S53) → Bool → Option (Bool)
 | 0, _, _, _ => none
 | k + 1, x0, x1, x16 => if x16 = true then ((stickfullaw26_head.f k).bind fun t201 => (some t201)) else ((ellipsis_Whole.f k x0 x1).bind fun bt202 => ((stickfulref26_Whole.f k x0 x1).bind fun bt206 => ((stickfulref09_Same.f k bt202.1 bt206.1).bind fun t210 => (if t210 = true then (if bt202.2 = bt206.2 then ((stickfullaw26_head.f k).bind fun t211 => (some t211)) else (some false)) else (some false)))))
def stickfullaw26_EllipsisWhole.f (k : Nat) (l0 : List (S78)) (l1 : List (S53)) : Option (Bool) := if (l0.length : Int) > 200 then (stickfullaw26_EllipsisWhole.j0 k l0 l1 true) else (stickfullaw26_EllipsisWhole.j0 k l0 l1 (decide ((l1.length : Int) > 200)))
theorem stickfullaw26_EllipsisWhole.mono_l : ∀ k, (∀ y0 y1 y2, LeO (stickfullaw26_EllipsisWhole.j0 k y0 y1 y2) (stickfullaw26_EllipsisWhole.j0 (k + 1) y0 y1 y2))
 | 0 => fun _ _ _ r h => by simp [stickfullaw26_EllipsisWhole.j0] at h
 | k + 1 => by
  have ih0 := stickfullaw26_EllipsisWhole.mono_l k
  ·intro y0 y1 y2
   unfold stickfullaw26_EllipsisWhole.j0
   repeat' first
   | (with_reducible exact ih0 _ _ _)
   | (with_reducible exact ellipsis_Whole.mono _ _ _)
   | (with_reducible exact stickfullaw26_head.mono _)
   | (with_reducible exact stickfulref09_Same.mono _ _ _)
   | (with_reducible exact stickfulref26_Whole.mono _ _ _)
   | (with_reducible exact LeO.refl _)
   | (with_reducible exact LeO.none _)
   | (with_reducible refine LeO.ite ?_ ?_)
   | (with_reducible refine LeO.bind ?_ (fun _ => ?_))
   | exact ih0 _ _ _
   | exact ellipsis_Whole.mono _ _ _
   | exact stickfullaw26_head.mono _
   | exact stickfulref09_Same.mono _ _ _
   | exact stickfulref26_Whole.mono _ _ _
   | exact LeO.none _
   | refine LeO.ite ?_ ?_
   | refine LeO.bind ?_ (fun _ => ?_)
theorem stickfullaw26_EllipsisWhole.mono : ∀ a0 a1 k, LeO (stickfullaw26_EllipsisWhole.f k a0 a1) (stickfullaw26_EllipsisWhole.f (k + 1) a0 a1) := by
 intro a0 a1 k
 have ih0 := stickfullaw26_EllipsisWhole.mono_l k
 unfold stickfullaw26_EllipsisWhole.f
 repeat' first
   | (with_reducible exact ih0 _ _ _)
   | (with_reducible exact ellipsis_Whole.mono _ _ _)
   | (with_reducible exact stickfullaw26_head.mono _)
   | (with_reducible exact stickfulref09_Same.mono _ _ _)
   | (with_reducible exact stickfulref26_Whole.mono _ _ _)
   | (with_reducible exact LeO.refl _)
   | (with_reducible exact LeO.none _)
   | (with_reducible refine LeO.ite ?_ ?_)
   | (with_reducible refine LeO.bind ?_ (fun _ => ?_))
   | exact ih0 _ _ _
   | exact ellipsis_Whole.mono _ _ _
   | exact stickfullaw26_head.mono _
   | exact stickfulref09_Same.mono _ _ _
   | exact stickfulref26_Whole.mono _ _ _
   | exact LeO.none _
   | refine LeO.ite ?_ ?_
   | refine LeO.bind ?_ (fun _ => ?_)
set_option maxHeartbeats 8000000 in
set_option maxRecDepth 100000 in
theorem stickfullaw26_EllipsisWhole.calls_t (k : Nat) (A0 : Option Addr) (c0 : Nat) (l0 : List (S78)) (A1 : Option Addr) (c1 : Nat) (l1 : List (S53)) (r : Bool) (w : World) (hr0 : Kd.C k78 w A0 l0.length l0) (hc0 : l0.length ≤ c0) (hr1 : Kd.C k53 w A1 l1.length l1) (hc1 : l1.length ≤ c1) (h : stickfullaw26_EllipsisWhole.f k l0 l1 = some r) (hr_ : r = true) :
  Calls Try.prog 4 #[.slice A0 l0.length c0, .slice A1 l1.length c1] w fun e w' => e = .returned (.bool r) ∧ Below w.heap.size w w' := by
 have HR_ := Aside0.mk hr_
 clear hr_
 have HR0 := Aside0.mk hr0
 have HC0 := Aside0.mk hc0
 clear hr0 hc0
 have HR1 := Aside0.mk hr1
 have HC1 := Aside0.mk hc1
 clear hr1 hc1
 have HB := Aside0.mk (Below.refl w.heap.size w)
 have H : (if (l0.length : Int) > 200 then (stickfullaw26_EllipsisWhole.j0 k l0 l1 true) else (stickfullaw26_EllipsisWhole.j0 k l0 l1 (decide ((l1.length : Int) > 200)))) = some r := h
 clear h
 have HC3 := Aside0.mk H
 clear H
 go_enter Try.func4, Try.ntmps4
 go_upto_region 1 with (fail)
 go_cut [16] (fun v16 wc => ∃ (kq : Nat) (x16_2 : Bool), v16 = .bool x16_2 ∧ Aside0 (stickfullaw26_EllipsisWhole.j0 kq l0 l1 x16_2 = some r) ∧ Aside0 (kq ≤ k) ∧ Aside0 (Below w.heap.size w wc))
 case first =>
  have H := HC3.out
  clear HC3
  by_cases c4 : (l0.length : Int) > 200
  ·rw [if_pos c4] at H
   have c4b0 : decide (200 < (l0.length : Int)) = true := decide_eq_true c4
   have c4b1 : decide (200 < l0.length) = true := decide_eq_true (by omega)
   clear c4
   (first | rw [c4b0] | (simp only [i64_w, i32_w]; rw [c4b0]) | skip)
   have H' := Aside0.mk H
   clear H
   go_wp2
   go_meet
   case rel => exact ⟨_, (true), (by first | rfl | (simp; done) | (simp [*]; done)), H', ⟨by first | omega | exact Nat.le_refl _⟩, ⟨by repeat (first | (with_reducible first | exact HB.out | apply below_alloc | apply pw_below_drewN | apply below_drew1) | exact HB.out)⟩⟩
  ·rw [if_neg c4] at H
   have c4b0 : decide (200 < (l0.length : Int)) = false := decide_eq_false c4
   have c4b1 : decide (200 < l0.length) = false := decide_eq_false (by omega)
   clear c4
   (first | rw [c4b0] | (simp only [i64_w, i32_w]; rw [c4b0]) | skip)
   have H' := Aside0.mk H
   clear H
   go_wp2
   go_meet
   case rel => exact ⟨_, (decide ((l1.length : Int) > 200)), (by first | rfl | (simp; done) | (simp [*]; done)), H', ⟨by first | omega | exact Nat.le_refl _⟩, ⟨by repeat (first | (with_reducible first | exact HB.out | apply below_alloc | apply pw_below_drewN | apply below_drew1) | exact HB.out)⟩⟩
 case rest =>
  clear HC3
  try clear c1
  try clear p2
  try clear c4
  try clear c4b0
  try clear c4b1
  obtain ⟨kq, x16_2, rfl, HA, HJ2, HB⟩ := hcut
  cases kq with
  | zero => exact absurd HA.out (by simp [stickfullaw26_EllipsisWhole.j0])
  | succ kj2 =>
   have H := HA.out
   clear HA
   simp only [stickfullaw26_EllipsisWhole.j0] at H
   by_cases c5 : x16_2 = true
   ·subst c5
    have H1 : ((stickfullaw26_head.f kj2).bind fun t201 => (some t201)) = some r := by rw [if_pos rfl] at H; exact H
    clear H
    have H := H1
    clear H1
    replace H := Option.bind_eq_some_iff.mp H
    obtain ⟨t201, A60, H⟩ := H
    replace H : (some t201) = some r := H
    have A6 := Aside0.mk A60
    clear A60
    obtain rfl := Option.some.inj H
    go_wp2_with (first | ((with_reducible refine gate_callee (f := 9) rfl ?_); refine goesB (some 17) rfl rfl Try.func9 #[] rfl ?_; (with_reducible refine (stickfullaw26_head.calls kj2  t201 _ A6.out).mono ?_); rintro e w7 ⟨rfl, hb⟩; refine ⟨_, rfl, ?_⟩; replace HB := bh HB hb; (try clear hb); (try clear hb2); (try clear hk); (try clear hi)))
    go_ret
    exact ⟨by first | rfl | (simp [errW_none, errW_some] <;> rfl) | (simp [*, errW_none, errW_some] <;> rfl), by repeat (first | (with_reducible first | exact HB.out | apply below_alloc | apply pw_below_drewN | apply below_drew1) | exact HB.out)⟩
   ·replace c5 := Bool.eq_false_iff.mpr c5
    subst c5
    have H1 : ((ellipsis_Whole.f kj2 l0 l1).bind fun bt202 => ((stickfulref26_Whole.f kj2 l0 l1).bind fun bt206 => ((stickfulref09_Same.f kj2 bt202.1 bt206.1).bind fun t210 => (if t210 = true then (if bt202.2 = bt206.2 then ((stickfullaw26_head.f kj2).bind fun t211 => (some t211)) else (some false)) else (some false))))) = some r := by rw [if_neg (show ¬ (false = true) by decide)] at H; exact H
    clear H
    have H := H1
    clear H1
    replace H := Option.bind_eq_some_iff.mp H
    obtain ⟨⟨t202, t203⟩, A80, H⟩ := H
    replace H : ((stickfulref26_Whole.f kj2 l0 l1).bind fun bt206 => ((stickfulref09_Same.f kj2 t202 bt206.1).bind fun t210 => (if t210 = true then (if t203 = bt206.2 then ((stickfullaw26_head.f kj2).bind fun t211 => (some t211)) else (some false)) else (some false)))) = some r := H
    have A8 := Aside0.mk A80
    clear A80
    replace H := Option.bind_eq_some_iff.mp H
    obtain ⟨⟨t206, t207⟩, A90, H⟩ := H
    replace H : ((stickfulref09_Same.f kj2 t202 t206).bind fun t210 => (if t210 = true then (if t203 = t207 then ((stickfullaw26_head.f kj2).bind fun t211 => (some t211)) else (some false)) else (some false))) = some r := H
    have A9 := Aside0.mk A90
    clear A90
    replace H := Option.bind_eq_some_iff.mp H
    obtain ⟨t210, A100, H⟩ := H
    replace H : (if t210 = true then (if t203 = t207 then ((stickfullaw26_head.f kj2).bind fun t211 => (some t211)) else (some false)) else (some false)) = some r := H
    have A10 := Aside0.mk A100
    clear A100
    by_cases c11 : t210 = true
    ·subst c11
     have H1 : (if t203 = t207 then ((stickfullaw26_head.f kj2).bind fun t211 => (some t211)) else (some false)) = some r := by rw [if_pos rfl] at H; exact H
     clear H
     have H := H1
     clear H1
     by_cases c12 : t203 = t207
     ·rw [if_pos c12] at H
      have c12b0 : (t203 == t207) = true := beq_iff_eq.mpr c12
      have c12b1 : (t203 != t207) = false := bne_eq_false_iff_eq.mpr c12
      clear c12
      replace H := Option.bind_eq_some_iff.mp H
      obtain ⟨t211, A130, H⟩ := H
      replace H : (some t211) = some r := H
      have A13 := Aside0.mk A130
      clear A130
      obtain rfl := Option.some.inj H
      go_wp2_with (first | ((with_reducible refine gate_callee (f := 15) rfl ?_); refine goesB (some 21) rfl rfl Try.func15 #[.slice A0 l0.length c0, .slice A1 l1.length c1] rfl ?_; (with_reducible refine (ellipsis_Whole.calls kj2 _ _ l0 _ _ l1 t202 t203 _ ?side1 ?side2 ?side3 ?side4 A8.out).mono ?_); (case side1 => repeat (first | exact (Kd.C_below HR0.out HB.out) | (with_reducible refine Kd.C_alloc ?_ _) | (with_reducible refine Kd.C_drewN ?_ _) | (with_reducible refine Kd.C_drew ?_))); (case side2 => exact HC0.out); (case side3 => repeat (first | exact (Kd.C_below HR1.out HB.out) | (with_reducible refine Kd.C_alloc ?_ _) | (with_reducible refine Kd.C_drewN ?_ _) | (with_reducible refine Kd.C_drew ?_))); (case side4 => exact HC1.out); rintro e w14 ⟨v204, rfl, ho0, hb⟩; refine ⟨_, rfl, ?_⟩; have HO205 := Aside0.mk (Kd.R_lower ho0 (below_size (bw HB))); replace HB := bh HB hb; (try clear hb); (try clear hb2); (try clear hk); (try clear hi); (try clear ho0)) | ((with_reducible refine gate_callee (f := 16) rfl ?_); refine goesB (some 27) rfl rfl Try.func16 #[.slice A0 l0.length c0, .slice A1 l1.length c1] rfl ?_; (with_reducible refine (stickfulref26_Whole.calls kj2 _ _ l0 _ _ l1 t206 t207 _ ?side1 ?side2 ?side3 ?side4 A9.out).mono ?_); (case side1 => repeat (first | exact (Kd.C_below HR0.out HB.out) | (with_reducible refine Kd.C_alloc ?_ _) | (with_reducible refine Kd.C_drewN ?_ _) | (with_reducible refine Kd.C_drew ?_))); (case side2 => exact HC0.out); (case side3 => repeat (first | exact (Kd.C_below HR1.out HB.out) | (with_reducible refine Kd.C_alloc ?_ _) | (with_reducible refine Kd.C_drewN ?_ _) | (with_reducible refine Kd.C_drew ?_))); (case side4 => exact HC1.out); rintro e w15 ⟨v208, rfl, ho0, hb⟩; refine ⟨_, rfl, ?_⟩; have HO209 := Aside0.mk (Kd.R_lower (Kd.R_new' ho0 (Kd.R_lt (rx HO205))) (below_size (bw HB))); replace HO205 := Aside0.mk (Kd.R_elder' (rx HO205) (Kd.R_base ho0) hb); replace HB := bh HB hb; (try clear hb); (try clear hb2); (try clear hk); (try clear hi); (try clear ho0); obtain ⟨Ao16, co16, eo16⟩ := Kd.R_slice HO205.out; subst eo16; obtain ⟨Ao17, co17, eo17⟩ := Kd.R_slice HO209.out; subst eo17) | ((with_reducible refine gate_callee (f := 17) rfl ?_); refine goesB (some 32) rfl rfl Try.func17 #[.slice Ao16 t202.length co16, .slice Ao17 t206.length co17] rfl ?_; (with_reducible refine (stickfulref09_Same.calls kj2 _ _ t202 _ _ t206 true _ ?side1 ?side2 ?side3 ?side4 A10.out).mono ?_); (case side1 => repeat (first | exact (Kd.R_reads' HO205.out).2.2 | (with_reducible refine Kd.C_alloc ?_ _) | (with_reducible refine Kd.C_drewN ?_ _) | (with_reducible refine Kd.C_drew ?_))); (case side2 => exact (Kd.R_reads' HO205.out).2.1); (case side3 => repeat (first | exact (Kd.R_reads' HO209.out).2.2 | (with_reducible refine Kd.C_alloc ?_ _) | (with_reducible refine Kd.C_drewN ?_ _) | (with_reducible refine Kd.C_drew ?_))); (case side4 => exact (Kd.R_reads' HO209.out).2.1); rintro e w' ⟨rfl, ⟨nd, rfl⟩⟩; refine ⟨_, rfl, ?_⟩) | (go_at_call 9; (with_reducible refine (stickfullaw26_head.calls kj2  t211 _ A13.out).mono ?_); rintro e w18 ⟨rfl, hb⟩; replace HO205 := Aside0.mk (Kd.R_below (rx HO205) hb); replace HO209 := Aside0.mk (Kd.R_below (rx HO209) hb); replace HB := bh HB hb; (try clear hb); (try clear hb2); (try clear hk); (try clear hi)))
      go_ret
      exact ⟨by first | rfl | (simp [errW_none, errW_some] <;> rfl) | (simp [*, errW_none, errW_some] <;> rfl), by repeat (first | (with_reducible first | exact HB.out | apply below_alloc | apply pw_below_drewN | apply below_drew1) | exact HB.out)⟩
     ·rw [if_neg c12] at H
      have c12b0 : (t203 == t207) = false := beq_eq_false_iff_ne.mpr c12
      have c12b1 : (t203 != t207) = true := bne_iff_ne.mpr c12
      exact absurd ((Option.some.inj H).trans HR_.out) (by decide)
    ·replace c11 := Bool.eq_false_iff.mpr c11
     subst c11
     have H1 : (some false) = some r := by rw [if_neg (show ¬ (false = true) by decide)] at H; exact H
     clear H
     have H := H1
     clear H1
     exact absurd ((Option.some.inj H).trans HR_.out) (by decide)

end Go.Proofs.Ytkaiibipcnlaiaa.HEllW
