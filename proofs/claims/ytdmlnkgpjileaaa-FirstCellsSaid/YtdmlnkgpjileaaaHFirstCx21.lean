-- Written by this claim's own program over the kit's print.
import Derived.Test.YtdmlnkgpjileaaaM3
import Derived.Test.YtdmlnkgpjileaaaHFirstCx4
import Derived.Test.YtdmlnkgpjileaaaHFirstCx18
import Derived.Test.YtdmlnkgpjileaaaHFirstCx20
namespace Go.Proofs.Ytdmlnkgpjileaaa.HFirstC
open Go.RowKit Go.Proofs.YtdmlnkgpjileaaaW.PrintWords Go.Proofs.YtdmlnkgpjileaaaW.PrintLast Go.Proofs.YtdmlnkgpjileaaaW.PrintMore Go.Proofs.Ytdmlnkgpjileaaa.Hand
attribute [local go_sem] max2_int min2_int max_two min_two max_three min_three max_four min_four   -- for this text's walks alone
set_option linter.unusedVariables false
set_option linter.unusedSimpArgs false

attribute [local go_sem high] eqA43
/-! ### stickfullaw15_three: function 19 -/
def stickfullaw15_three.f (a0 : Int) : Option ((List (S46))) := some (([(⟨0, 0, 0, a0, false, false⟩ : S46), (⟨0, 0, 1, a0, false, true⟩ : S46), (⟨0, 0, 2, a0, false, true⟩ : S46)] : List (S46)))
set_option maxHeartbeats 8000000 in
set_option maxRecDepth 100000 in
theorem stickfullaw15_three.calls (a0 : Int) (r : List (S46)) (w : World) (h : stickfullaw15_three.f a0 = some r) :
  Calls Try.prog 19 #[.int .i64 a0] w fun e w' => ∃ v0_ : Value, e = .returned (v0_) ∧ Kd.R k46 46 w' w.heap.size (fun _ => True) v0_ r ∧ Below w.heap.size w w' := by
 have hu46 := Try.underlying46
 have HB := Aside0.mk (Below.refl w.heap.size w)
 have H : (some (([(⟨0, 0, 0, a0, false, false⟩ : S46), (⟨0, 0, 1, a0, false, true⟩ : S46), (⟨0, 0, 2, a0, false, true⟩ : S46)] : List (S46)))) = some r := h
 clear h
 obtain ⟨y144, hy144⟩ : ∃ y_ : List (S46), y_ = (([(⟨0, 0, 0, a0, false, false⟩ : S46), (⟨0, 0, 1, a0, false, true⟩ : S46), (⟨0, 0, 2, a0, false, true⟩ : S46)] : List (S46))) := ⟨_, rfl⟩
 replace H : (some y144) = some r := by first | (rw [hy144]; with_reducible exact H) | (have H2_ := (Option.bind_some _ _).symm.trans H; rw [hy144]; with_reducible exact H2_) | (have H2_ := (Option.bind_some _ _).symm.trans H; with_reducible exact H2_) | with_reducible exact H | (rw [hy144]; exact H) | exact H
 have Ny144 := Aside0.mk hy144
 clear hy144
 obtain rfl := Option.some.inj H
 go_enter Try.func19, Try.ntmps19
 go_wp2_with (first | ((with_reducible refine gate_dst (N := 9) rfl ?_); refine Kd.R_lit k46 _ 46 ?hg (N := 9) ?hd (xs := ([(⟨0, 0, 0, a0, false, false⟩ : S46), (⟨0, 0, 1, a0, false, true⟩ : S46), (⟨0, 0, 2, a0, false, true⟩ : S46)] : List (S46))) (inner := [.int .u8 0, .int .i64 0, .int .i64 0, .int .i64 a0, .bool false, .bool false, .int .u8 0, .int .i64 0, .int .i64 1, .int .i64 a0, .bool false, .bool true, .int .u8 0, .int .i64 0, .int .i64 2, .int .i64 a0, .bool false, .bool true]) (ok := fun _ => True) (okp := fun _ => True) ?hr ?hp (fun _ hk => hk) trivial (Below.refl _ _) (Nat.le_refl _) (by simp) ?_; (case hd => rfl); (case hg => rfl); (case hr => first | (go_simp; done) | (go_simp; rfl)); (case hp => exact (Reps.c6 (show Kd.M k46 _ _ _ (⟨0, 0, 0, a0, false, false⟩ : S46) [.int .u8 0, .int .i64 0, .int .i64 0, .int .i64 a0, .bool false, .bool false] from (k46_mkM _ _ _ (⟨0, 0, 0, a0, false, false⟩ : S46) )) (Reps.c6 (show Kd.M k46 _ _ _ (⟨0, 0, 1, a0, false, true⟩ : S46) [.int .u8 0, .int .i64 0, .int .i64 1, .int .i64 a0, .bool false, .bool true] from (k46_mkM _ _ _ (⟨0, 0, 1, a0, false, true⟩ : S46) )) (Reps.c6 (show Kd.M k46 _ _ _ (⟨0, 0, 2, a0, false, true⟩ : S46) [.int .u8 0, .int .i64 0, .int .i64 2, .int .i64 a0, .bool false, .bool true] from (k46_mkM _ _ _ (⟨0, 0, 2, a0, false, true⟩ : S46) )) (Reps.none _ _))))); intro v145 w2 ho3 hb hg_ hnew_; clear hg_ hnew_; (first | rw [← Ny144.out] at ho3 | (simp only [Int.reduceToNat] at ho3; rw [← Ny144.out] at ho3)); have HO146 := Aside0.mk (Kd.R_lower ho3 (below_size (bw HB))); replace HB := bh HB hb; clear hb ho3))
 go_ret
 exact ⟨_, by first | rfl | (simp [errW_none, errW_some] <;> rfl) | (simp [*, errW_none, errW_some] <;> rfl), by (with_reducible repeat (first | apply Kd.R_alloc | apply Kd.R_drewN | apply Kd.R_drew)); exact HO146.out, by repeat (first | (with_reducible first | exact HB.out | apply below_alloc | apply pw_below_drewN | apply below_drew1) | exact HB.out)⟩

/-! ### stickfulref14_Same: function 11 -/
def stickfulref14_Same.l0 : Nat → List (S43) → List (S43) → Int → Option (Bool)
 | 0, _, _, _ => none
 | k + 1, x0, x1, x5 => if x5 < (x0.length : Int) then (if 0 ≤ x5 then (if x5 < (x1.length : Int) then (if (!(((rd_T43 x0 x5).f0) == ((rd_T43 x1 x5).f0)) || (!(((rd_T43 x0 x5).f1) == ((rd_T43 x1 x5).f1)) || (!(((rd_T43 x0 x5).f2) == ((rd_T43 x1 x5).f2))))) = true then (some false) else (stickfulref14_Same.l0 k x0 x1 (wrap64 (x5 + 1)))) else (none)) else (none)) else (some true)
def stickfulref14_Same.f (k : Nat) (l0 : List (S43)) (l1 : List (S43)) : Option (Bool) := if (l0.length : Int) = (l1.length : Int) then (stickfulref14_Same.l0 k l0 l1 0) else (some false)
theorem stickfulref14_Same.mono_l : ∀ k, (∀ y0 y1 y2, LeO (stickfulref14_Same.l0 k y0 y1 y2) (stickfulref14_Same.l0 (k + 1) y0 y1 y2))
 | 0 => fun _ _ _ r h => by simp [stickfulref14_Same.l0] at h
 | k + 1 => by
  have ih0 := stickfulref14_Same.mono_l k
  ·intro y0 y1 y2
   unfold stickfulref14_Same.l0
   repeat' first
   | (with_reducible exact ih0 _ _ _)
   | (with_reducible exact LeO.refl _)
   | (with_reducible exact LeO.none _)
   | (with_reducible refine LeO.ite ?_ ?_)
   | (with_reducible refine LeO.bind ?_ (fun _ => ?_))
   | exact ih0 _ _ _
   | exact LeO.none _
   | refine LeO.ite ?_ ?_
   | refine LeO.bind ?_ (fun _ => ?_)
theorem stickfulref14_Same.mono : ∀ a0 a1 k, LeO (stickfulref14_Same.f k a0 a1) (stickfulref14_Same.f (k + 1) a0 a1) := by
 intro a0 a1 k
 have ih0 := stickfulref14_Same.mono_l k
 unfold stickfulref14_Same.f
 repeat' first
   | (with_reducible exact ih0 _ _ _)
   | (with_reducible exact LeO.refl _)
   | (with_reducible exact LeO.none _)
   | (with_reducible refine LeO.ite ?_ ?_)
   | (with_reducible refine LeO.bind ?_ (fun _ => ?_))
   | exact ih0 _ _ _
   | exact LeO.none _
   | refine LeO.ite ?_ ?_
   | refine LeO.bind ?_ (fun _ => ?_)
set_option maxHeartbeats 8000000 in
set_option maxRecDepth 100000 in
theorem stickfulref14_Same.calls (k : Nat) (A0 : Option Addr) (c0 : Nat) (l0 : List (S43)) (A1 : Option Addr) (c1 : Nat) (l1 : List (S43)) (r : Bool) (w : World) (hr0 : Kd.C k43 w A0 l0.length l0) (hc0 : l0.length ≤ c0) (hr1 : Kd.C k43 w A1 l1.length l1) (hc1 : l1.length ≤ c1) (h : stickfulref14_Same.f k l0 l1 = some r) :
  Calls Try.prog 11 #[.slice A0 l0.length c0, .slice A1 l1.length c1] w fun e w' => e = .returned (.bool r) ∧ Drawn0 w w' := by
 have hu43 := Try.underlying43
 have HR0 := Aside0.mk hr0
 have HC0 := Aside0.mk hc0
 clear hr0 hc0
 have HR1 := Aside0.mk hr1
 have HC1 := Aside0.mk hc1
 clear hr1 hc1
 have H : (if (l0.length : Int) = (l1.length : Int) then (stickfulref14_Same.l0 k l0 l1 0) else (some false)) = some r := h
 clear h
 by_cases c3 : (l0.length : Int) = (l1.length : Int)
 ·rw [if_pos c3] at H
  have c3b0 : ((l0.length : Int) == (l1.length : Int)) = true := beq_iff_eq.mpr c3
  have c3b1 : ((l0.length : Int) != (l1.length : Int)) = false := bne_eq_false_iff_eq.mpr c3
  have c3b2 : (l0.length == l1.length) = true := by first | simpa using c3 | (simp at c3 ⊢; omega)
  clear c3
  have H' := Aside0.mk H
  clear H
  go_enter Try.func11, Try.ntmps11
  go_wp2
  repeat (go_quiet (fail); try go_wp2)
  go_loopg [5] k (fun kq v5 w' => ∃ (x5_1 : Int), v5 = .int .i64 x5_1 ∧ Aside0 (stickfulref14_Same.l0 kq l0 l1 x5_1 = some r) ∧ Aside0 (kq ≤ k) ∧ Drawn0 w w')
  case atStart => exact ⟨(0), (by first | rfl | (simp; done) | (simp [*]; done)), H', ⟨Nat.le_refl _⟩, by repeat (first | exact Drawn0.refl _ | apply Drawn0.step)⟩
  case round =>
   clear H'
   try clear c1
   try clear p2
   try clear c3
   try clear c3b0
   try clear c3b1
   try clear c3b2
   obtain ⟨x5_1, rfl, HA, HK1, ⟨m1, rfl⟩⟩ := hrel
   cases gk with
   | zero => exact absurd HA.out (by simp [stickfulref14_Same.l0])
   | succ k1 =>
    have H := HA.out
    clear HA
    simp only [stickfulref14_Same.l0] at H
    by_cases c4 : x5_1 < (l0.length : Int)
    ·rw [if_pos c4] at H
     have c4b0 : decide (x5_1 < (l0.length : Int)) = true := decide_eq_true c4
     clear c4
     by_cases c5 : 0 ≤ x5_1
     ·rw [if_pos c5] at H
      have c5b0 : decide (0 ≤ x5_1) = true := decide_eq_true c5
      clear c5
      by_cases c6 : x5_1 < (l1.length : Int)
      ·rw [if_pos c6] at H
       have c6b0 : decide (x5_1 < (l1.length : Int)) = true := decide_eq_true c6
       clear c6
       by_cases c7 : (!(((rd_T43 l0 x5_1).f0) == ((rd_T43 l1 x5_1).f0)) || (!(((rd_T43 l0 x5_1).f1) == ((rd_T43 l1 x5_1).f1)) || (!(((rd_T43 l0 x5_1).f2) == ((rd_T43 l1 x5_1).f2))))) = true
       ·rw [if_pos c7] at H
        have c7b0 : (!(((rd_T43 l0 x5_1).f0) == ((rd_T43 l1 x5_1).f0)) || (!(((rd_T43 l0 x5_1).f1) == ((rd_T43 l1 x5_1).f1)) || (!(((rd_T43 l0 x5_1).f2) == ((rd_T43 l1 x5_1).f2))))) = true := c7
        clear c7
        obtain rfl := Option.some.inj H
        have p147 : 0 ≤ (x5_1 : Int) := of_decide_eq_true (by first | (with_reducible assumption) | assumption)
        have q147 : x5_1 < (l0.length : Int) := of_decide_eq_true (by first | (with_reducible assumption) | assumption)
        obtain ⟨ad147, e147, hx147_0, hx147_1, hx147_2⟩ := at_T43 HR0.out x5_1 p147 q147
        cases e147
        replace p147 := eq_true p147
        replace q147 := eq_true q147
        have p148 : 0 ≤ (x5_1 : Int) := of_decide_eq_true (by first | (with_reducible assumption) | assumption)
        have q148 : x5_1 < (l1.length : Int) := of_decide_eq_true (by first | (with_reducible assumption) | assumption)
        obtain ⟨ad148, e148, hx148_0, hx148_1, hx148_2⟩ := at_T43 HR1.out x5_1 p148 q148
        cases e148
        replace p148 := eq_true p148
        replace q148 := eq_true q148
        go_wp2
        repeat (go_quiet (fail); try go_wp2)
        go_ret
        exact ⟨by first | rfl | (simp; done) | (simp [*]; done), by repeat (first | exact Drawn0.refl _ | apply Drawn0.step)⟩
       ·rw [if_neg c7] at H
        have c7b0 : (!(((rd_T43 l0 x5_1).f0) == ((rd_T43 l1 x5_1).f0)) || (!(((rd_T43 l0 x5_1).f1) == ((rd_T43 l1 x5_1).f1)) || (!(((rd_T43 l0 x5_1).f2) == ((rd_T43 l1 x5_1).f2))))) = false := by simpa using c7
        clear c7
        have H' := Aside0.mk H
        clear H
        have p147 : 0 ≤ (x5_1 : Int) := of_decide_eq_true (by first | (with_reducible assumption) | assumption)
        have q147 : x5_1 < (l0.length : Int) := of_decide_eq_true (by first | (with_reducible assumption) | assumption)
        obtain ⟨ad147, e147, hx147_0, hx147_1, hx147_2⟩ := at_T43 HR0.out x5_1 p147 q147
        cases e147
        replace p147 := eq_true p147
        replace q147 := eq_true q147
        have p148 : 0 ≤ (x5_1 : Int) := of_decide_eq_true (by first | (with_reducible assumption) | assumption)
        have q148 : x5_1 < (l1.length : Int) := of_decide_eq_true (by first | (with_reducible assumption) | assumption)
        obtain ⟨ad148, e148, hx148_0, hx148_1, hx148_2⟩ := at_T43 HR1.out x5_1 p148 q148
        cases e148
        replace p148 := eq_true p148
        replace q148 := eq_true q148
        go_wp2
        repeat (go_quiet (fail); try go_wp2)
        go_roundg k1
        case measure => have := HK1.out; omega
        case rel => exact ⟨(wrap64 (x5_1 + 1)), (by first | rfl | (simp; done) | (simp [*]; done)), H', ⟨by have := HK1.out; omega⟩, by repeat (first | exact Drawn0.refl _ | apply Drawn0.step)⟩
      ·rw [if_neg c6] at H
       exact absurd H (by simp)
     ·rw [if_neg c5] at H
      exact absurd H (by simp)
    ·rw [if_neg c4] at H
     have c4b0 : decide (x5_1 < (l0.length : Int)) = false := decide_eq_false c4
     clear c4
     obtain rfl := Option.some.inj H
     go_wp2
     repeat (go_quiet (fail); try go_wp2)
     go_ret
     exact ⟨by first | rfl | (simp; done) | (simp [*]; done), by repeat (first | exact Drawn0.refl _ | apply Drawn0.step)⟩
 ·rw [if_neg c3] at H
  have c3b0 : ((l0.length : Int) == (l1.length : Int)) = false := beq_eq_false_iff_ne.mpr c3
  have c3b1 : ((l0.length : Int) != (l1.length : Int)) = true := bne_iff_ne.mpr c3
  have c3b2 : (l0.length == l1.length) = false := by first | simpa using c3 | (simp at c3 ⊢; omega)
  obtain rfl := Option.some.inj H
  go_enter Try.func11, Try.ntmps11
  go_wp2
  repeat (go_quiet (fail); try go_wp2)
  go_ret
  exact ⟨by first | rfl | (simp; done) | (simp [*]; done), by repeat (first | exact Drawn0.refl _ | apply Drawn0.step)⟩

/-! ### stickfullaw15_lines: function 20 -/
def stickfullaw15_lines.f (k : Nat) (a0 a1 : Int) (l2 : List (S43)) : Option (Bool) := (stickfullaw15_three.f 10).bind fun t149 => ((stickfullaw15_three.f 5).bind fun t152 => ((first_Lines.f k t149 t152 a0 0 a1 0).bind fun bt155 => (if bt155.2 = 0 then ((stickfulref14_Same.f k bt155.1 l2).bind fun t159 => (some t159)) else (some false))))
theorem stickfullaw15_lines.mono : ∀ a0 a1 a2 k, LeO (stickfullaw15_lines.f k a0 a1 a2) (stickfullaw15_lines.f (k + 1) a0 a1 a2) := by
 intro a0 a1 a2 k
 unfold stickfullaw15_lines.f
 repeat' first
   | (with_reducible exact first_Lines.mono _ _ _ _ _ _ _)
   | (with_reducible exact stickfulref14_Same.mono _ _ _)
   | (with_reducible exact LeO.refl _)
   | (with_reducible exact LeO.none _)
   | (with_reducible refine LeO.ite ?_ ?_)
   | (with_reducible refine LeO.bind ?_ (fun _ => ?_))
   | exact first_Lines.mono _ _ _ _ _ _ _
   | exact stickfulref14_Same.mono _ _ _
   | exact LeO.none _
   | refine LeO.ite ?_ ?_
   | refine LeO.bind ?_ (fun _ => ?_)
set_option maxHeartbeats 8000000 in
set_option maxRecDepth 100000 in
theorem stickfullaw15_lines.calls (k : Nat) (a0 a1 : Int) (A2 : Option Addr) (c2 : Nat) (l2 : List (S43)) (r : Bool) (w : World) (hr2 : Kd.C k43 w A2 l2.length l2) (hc2 : l2.length ≤ c2) (h : stickfullaw15_lines.f k a0 a1 l2 = some r) :
  Calls Try.prog 20 #[.int .i64 a0, .int .i64 a1, .slice A2 l2.length c2] w fun e w' => e = .returned (.bool r) ∧ Below w.heap.size w w' := by
 have hu24 := Try.underlying24
 have HR2 := Aside0.mk hr2
 have HC2 := Aside0.mk hc2
 clear hr2 hc2
 have HB := Aside0.mk (Below.refl w.heap.size w)
 have H : ((stickfullaw15_three.f 10).bind fun t149 => ((stickfullaw15_three.f 5).bind fun t152 => ((first_Lines.f k t149 t152 a0 0 a1 0).bind fun bt155 => (if bt155.2 = 0 then ((stickfulref14_Same.f k bt155.1 l2).bind fun t159 => (some t159)) else (some false))))) = some r := h
 clear h
 replace H := Option.bind_eq_some_iff.mp H
 obtain ⟨t149, A40, H⟩ := H
 replace H : ((stickfullaw15_three.f 5).bind fun t152 => ((first_Lines.f k t149 t152 a0 0 a1 0).bind fun bt155 => (if bt155.2 = 0 then ((stickfulref14_Same.f k bt155.1 l2).bind fun t159 => (some t159)) else (some false)))) = some r := H
 have A4 := Aside0.mk A40
 clear A40
 replace H := Option.bind_eq_some_iff.mp H
 obtain ⟨t152, A50, H⟩ := H
 replace H : ((first_Lines.f k t149 t152 a0 0 a1 0).bind fun bt155 => (if bt155.2 = 0 then ((stickfulref14_Same.f k bt155.1 l2).bind fun t159 => (some t159)) else (some false))) = some r := H
 have A5 := Aside0.mk A50
 clear A50
 replace H := Option.bind_eq_some_iff.mp H
 obtain ⟨⟨t155, t158⟩, A60, H⟩ := H
 replace H : (if t158 = 0 then ((stickfulref14_Same.f k t155 l2).bind fun t159 => (some t159)) else (some false)) = some r := H
 have A6 := Aside0.mk A60
 clear A60
 by_cases c7 : t158 = 0
 ·rw [if_pos c7] at H
  have c7b0 : (t158 == 0) = true := beq_iff_eq.mpr c7
  have c7b1 : (t158 != 0) = false := bne_eq_false_iff_eq.mpr c7
  clear c7
  replace H := Option.bind_eq_some_iff.mp H
  obtain ⟨t159, A80, H⟩ := H
  replace H : (some t159) = some r := H
  have A8 := Aside0.mk A80
  clear A80
  obtain rfl := Option.some.inj H
  go_enter Try.func20, Try.ntmps20
  go_wp2_with (first | ((with_reducible refine gate_callee (f := 19) rfl ?_); refine goesB (some 10) rfl rfl Try.func19 #[.int .i64 10] rfl ?_; (with_reducible refine (stickfullaw15_three.calls 10 t149 _ A4.out).mono ?_); rintro e w9 ⟨v150, rfl, ho0, hb⟩; refine ⟨_, rfl, ?_⟩; have HO151 := Aside0.mk (Kd.R_lower ho0 (below_size (bw HB))); replace HB := bh HB hb; (try clear hb); (try clear hb2); (try clear hk); (try clear hi); (try clear ho0)) | ((with_reducible refine gate_callee (f := 19) rfl ?_); refine goesB (some 11) rfl rfl Try.func19 #[.int .i64 5] rfl ?_; (with_reducible refine (stickfullaw15_three.calls 5 t152 _ A5.out).mono ?_); rintro e w10 ⟨v153, rfl, ho0, hb⟩; refine ⟨_, rfl, ?_⟩; have HO154 := Aside0.mk (Kd.R_lower (Kd.R_new' ho0 (Kd.R_lt (rx HO151))) (below_size (bw HB))); replace HO151 := Aside0.mk (Kd.R_elder' (rx HO151) (Kd.R_base ho0) hb); replace HB := bh HB hb; (try clear hb); (try clear hb2); (try clear hk); (try clear hi); (try clear ho0); obtain ⟨Ao11, co11, eo11⟩ := Kd.R_slice HO151.out; subst eo11; obtain ⟨Ao12, co12, eo12⟩ := Kd.R_slice HO154.out; subst eo12) | ((with_reducible refine gate_callee (f := 9) rfl ?_); refine goesB (some 16) rfl rfl Try.func9 #[.slice Ao11 t149.length co11, .slice Ao12 t152.length co12, .agg #[.int .i64 a0, .int .i64 0], .agg #[.int .i64 a1, .int .i64 0]] rfl ?_; (with_reducible refine (first_Lines.calls k _ _ t149 _ _ t152 a0 0 a1 0 t155 t158 _ ?side1 ?side2 ?side3 ?side4 A6.out).mono ?_); (case side1 => repeat (first | exact (Kd.R_reads' HO151.out).2.2 | (with_reducible refine Kd.C_alloc ?_ _) | (with_reducible refine Kd.C_drewN ?_ _) | (with_reducible refine Kd.C_drew ?_))); (case side2 => exact (Kd.R_reads' HO151.out).2.1); (case side3 => repeat (first | exact (Kd.R_reads' HO154.out).2.2 | (with_reducible refine Kd.C_alloc ?_ _) | (with_reducible refine Kd.C_drewN ?_ _) | (with_reducible refine Kd.C_drew ?_))); (case side4 => exact (Kd.R_reads' HO154.out).2.1); rintro e w13 ⟨v156, rfl, ho0, hb⟩; refine ⟨_, rfl, ?_⟩; replace HO151 := Aside0.mk (Kd.R_below (rx HO151) hb); replace HO154 := Aside0.mk (Kd.R_below (rx HO154) hb); have HO157 := Aside0.mk (Kd.R_lower ho0 (below_size (bw HB))); replace HB := bh HB hb; (try clear hb); (try clear hb2); (try clear hk); (try clear hi); (try clear ho0); obtain ⟨Ao14, co14, eo14⟩ := Kd.R_slice HO157.out; subst eo14) | (go_at_call 11; (with_reducible refine (stickfulref14_Same.calls k _ _ t155 _ _ l2 t159 _ ?side1 ?side2 ?side3 ?side4 A8.out).mono ?_); (case side1 => repeat (first | exact (Kd.R_reads' HO157.out).2.2 | (with_reducible refine Kd.C_alloc ?_ _) | (with_reducible refine Kd.C_drewN ?_ _) | (with_reducible refine Kd.C_drew ?_))); (case side2 => exact (Kd.R_reads' HO157.out).2.1); (case side3 => repeat (first | exact (Kd.C_below HR2.out HB.out) | (with_reducible refine Kd.C_alloc ?_ _) | (with_reducible refine Kd.C_drewN ?_ _) | (with_reducible refine Kd.C_drew ?_))); (case side4 => exact HC2.out); rintro e w' ⟨rfl, ⟨nd, rfl⟩⟩))
  go_ret
  exact ⟨by first | rfl | (simp [errW_none, errW_some] <;> rfl) | (simp [*, errW_none, errW_some] <;> rfl), by repeat (first | (with_reducible first | exact HB.out | apply below_alloc | apply pw_below_drewN | apply below_drew1) | exact HB.out)⟩
 ·rw [if_neg c7] at H
  have c7b0 : (t158 == 0) = false := beq_eq_false_iff_ne.mpr c7
  have c7b1 : (t158 != 0) = true := bne_iff_ne.mpr c7
  obtain rfl := Option.some.inj H
  go_enter Try.func20, Try.ntmps20
  go_wp2_with (first | ((with_reducible refine gate_callee (f := 19) rfl ?_); refine goesB (some 10) rfl rfl Try.func19 #[.int .i64 10] rfl ?_; (with_reducible refine (stickfullaw15_three.calls 10 t149 _ A4.out).mono ?_); rintro e w15 ⟨v150, rfl, ho0, hb⟩; refine ⟨_, rfl, ?_⟩; have HO151 := Aside0.mk (Kd.R_lower ho0 (below_size (bw HB))); replace HB := bh HB hb; (try clear hb); (try clear hb2); (try clear hk); (try clear hi); (try clear ho0)) | ((with_reducible refine gate_callee (f := 19) rfl ?_); refine goesB (some 11) rfl rfl Try.func19 #[.int .i64 5] rfl ?_; (with_reducible refine (stickfullaw15_three.calls 5 t152 _ A5.out).mono ?_); rintro e w16 ⟨v153, rfl, ho0, hb⟩; refine ⟨_, rfl, ?_⟩; have HO154 := Aside0.mk (Kd.R_lower (Kd.R_new' ho0 (Kd.R_lt (rx HO151))) (below_size (bw HB))); replace HO151 := Aside0.mk (Kd.R_elder' (rx HO151) (Kd.R_base ho0) hb); replace HB := bh HB hb; (try clear hb); (try clear hb2); (try clear hk); (try clear hi); (try clear ho0); obtain ⟨Ao17, co17, eo17⟩ := Kd.R_slice HO151.out; subst eo17; obtain ⟨Ao18, co18, eo18⟩ := Kd.R_slice HO154.out; subst eo18) | ((with_reducible refine gate_callee (f := 9) rfl ?_); refine goesB (some 16) rfl rfl Try.func9 #[.slice Ao17 t149.length co17, .slice Ao18 t152.length co18, .agg #[.int .i64 a0, .int .i64 0], .agg #[.int .i64 a1, .int .i64 0]] rfl ?_; (with_reducible refine (first_Lines.calls k _ _ t149 _ _ t152 a0 0 a1 0 t155 t158 _ ?side1 ?side2 ?side3 ?side4 A6.out).mono ?_); (case side1 => repeat (first | exact (Kd.R_reads' HO151.out).2.2 | (with_reducible refine Kd.C_alloc ?_ _) | (with_reducible refine Kd.C_drewN ?_ _) | (with_reducible refine Kd.C_drew ?_))); (case side2 => exact (Kd.R_reads' HO151.out).2.1); (case side3 => repeat (first | exact (Kd.R_reads' HO154.out).2.2 | (with_reducible refine Kd.C_alloc ?_ _) | (with_reducible refine Kd.C_drewN ?_ _) | (with_reducible refine Kd.C_drew ?_))); (case side4 => exact (Kd.R_reads' HO154.out).2.1); rintro e w19 ⟨v156, rfl, ho0, hb⟩; refine ⟨_, rfl, ?_⟩; replace HO151 := Aside0.mk (Kd.R_below (rx HO151) hb); replace HO154 := Aside0.mk (Kd.R_below (rx HO154) hb); have HO157 := Aside0.mk (Kd.R_lower ho0 (below_size (bw HB))); replace HB := bh HB hb; (try clear hb); (try clear hb2); (try clear hk); (try clear hi); (try clear ho0)))
  go_ret
  exact ⟨by first | rfl | (simp [errW_none, errW_some] <;> rfl) | (simp [*, errW_none, errW_some] <;> rfl), by repeat (first | (with_reducible first | exact HB.out | apply below_alloc | apply pw_below_drewN | apply below_drew1) | exact HB.out)⟩

/-! ### stickfullaw15_head: function 8 -/
def stickfullaw15_head.f (k : Nat)  : Option (Bool) := (stickfullaw15_three.f 10).bind fun t160 => ((stickfullaw15_three.f 5).bind fun t163 => (if 2 ≤ (t163.length : Int) then ((first_Lines.f k t160 (t163.take 2) 0 0 0 0).bind fun bt170 => ((stickfullaw15_three.f 1).bind fun t174 => ((stickfullaw15_three.f 2).bind fun t177 => ((first_Cells.f t174 t177 (([(⟨2, 4, false⟩ : S43)] : List (S43)))).bind fun bt183 => ((stickfullaw15_lines.f k 10 10 (([(⟨0, 1, false⟩ : S43), (⟨1, 3, false⟩ : S43)] : List (S43)))).bind fun t190 => (if t190 = true then ((stickfullaw15_lines.f k 20 5 (([(⟨0, 2, false⟩ : S43), (⟨2, 3, false⟩ : S43)] : List (S43)))).bind fun t194 => (if t194 = true then ((stickfullaw15_lines.f k 30 0 (([(⟨0, 3, false⟩ : S43)] : List (S43)))).bind fun t198 => (if t198 = true then ((stickfullaw15_lines.f k 0 0 (([(⟨0, 1, false⟩ : S43), (⟨1, 2, false⟩ : S43), (⟨2, 3, false⟩ : S43)] : List (S43)))).bind fun t202 => (if t202 = true then (if bt170.2 = 2 then (if bt183.2 = 2 then ((stickfullaw15_three.f 1).bind fun t203 => ((stickfullaw15_three.f 2).bind fun t206 => ((first_Alike.f t203 t206).bind fun t209 => (some t209)))) else (some false)) else (some false)) else (some false))) else (some false))) else (some false))) else (some false))))))) else (none)))
theorem stickfullaw15_head.mono : ∀ k, LeO (stickfullaw15_head.f k ) (stickfullaw15_head.f (k + 1) ) := by
 intro  k
 unfold stickfullaw15_head.f
 repeat' first
   | (with_reducible exact first_Lines.mono _ _ _ _ _ _ _)
   | (with_reducible exact stickfullaw15_lines.mono _ _ _ _)
   | (with_reducible exact LeO.refl _)
   | (with_reducible exact LeO.none _)
   | (with_reducible refine LeO.ite ?_ ?_)
   | (with_reducible refine LeO.bind ?_ (fun _ => ?_))
   | exact first_Lines.mono _ _ _ _ _ _ _
   | exact stickfullaw15_lines.mono _ _ _ _
   | exact LeO.none _
   | refine LeO.ite ?_ ?_
   | refine LeO.bind ?_ (fun _ => ?_)
set_option maxHeartbeats 8000000 in
set_option maxRecDepth 100000 in
theorem stickfullaw15_head.calls_t (k : Nat)  (r : Bool) (w : World) (h : stickfullaw15_head.f k  = some r) (hr_ : r = true) :
  Calls Try.prog 8 #[] w fun e w' => e = .returned (.bool r) ∧ Below w.heap.size w w' := by
 have hu24 := Try.underlying24
 have hu43 := Try.underlying43
 have HR_ := Aside0.mk hr_
 clear hr_
 have HB := Aside0.mk (Below.refl w.heap.size w)
 have H : ((stickfullaw15_three.f 10).bind fun t160 => ((stickfullaw15_three.f 5).bind fun t163 => (if 2 ≤ (t163.length : Int) then ((first_Lines.f k t160 (t163.take 2) 0 0 0 0).bind fun bt170 => ((stickfullaw15_three.f 1).bind fun t174 => ((stickfullaw15_three.f 2).bind fun t177 => ((first_Cells.f t174 t177 (([(⟨2, 4, false⟩ : S43)] : List (S43)))).bind fun bt183 => ((stickfullaw15_lines.f k 10 10 (([(⟨0, 1, false⟩ : S43), (⟨1, 3, false⟩ : S43)] : List (S43)))).bind fun t190 => (if t190 = true then ((stickfullaw15_lines.f k 20 5 (([(⟨0, 2, false⟩ : S43), (⟨2, 3, false⟩ : S43)] : List (S43)))).bind fun t194 => (if t194 = true then ((stickfullaw15_lines.f k 30 0 (([(⟨0, 3, false⟩ : S43)] : List (S43)))).bind fun t198 => (if t198 = true then ((stickfullaw15_lines.f k 0 0 (([(⟨0, 1, false⟩ : S43), (⟨1, 2, false⟩ : S43), (⟨2, 3, false⟩ : S43)] : List (S43)))).bind fun t202 => (if t202 = true then (if bt170.2 = 2 then (if bt183.2 = 2 then ((stickfullaw15_three.f 1).bind fun t203 => ((stickfullaw15_three.f 2).bind fun t206 => ((first_Alike.f t203 t206).bind fun t209 => (some t209)))) else (some false)) else (some false)) else (some false))) else (some false))) else (some false))) else (some false))))))) else (none)))) = some r := h
 clear h
 replace H := Option.bind_eq_some_iff.mp H
 obtain ⟨t160, A10, H⟩ := H
 replace H : ((stickfullaw15_three.f 5).bind fun t163 => (if 2 ≤ (t163.length : Int) then ((first_Lines.f k t160 (t163.take 2) 0 0 0 0).bind fun bt170 => ((stickfullaw15_three.f 1).bind fun t174 => ((stickfullaw15_three.f 2).bind fun t177 => ((first_Cells.f t174 t177 (([(⟨2, 4, false⟩ : S43)] : List (S43)))).bind fun bt183 => ((stickfullaw15_lines.f k 10 10 (([(⟨0, 1, false⟩ : S43), (⟨1, 3, false⟩ : S43)] : List (S43)))).bind fun t190 => (if t190 = true then ((stickfullaw15_lines.f k 20 5 (([(⟨0, 2, false⟩ : S43), (⟨2, 3, false⟩ : S43)] : List (S43)))).bind fun t194 => (if t194 = true then ((stickfullaw15_lines.f k 30 0 (([(⟨0, 3, false⟩ : S43)] : List (S43)))).bind fun t198 => (if t198 = true then ((stickfullaw15_lines.f k 0 0 (([(⟨0, 1, false⟩ : S43), (⟨1, 2, false⟩ : S43), (⟨2, 3, false⟩ : S43)] : List (S43)))).bind fun t202 => (if t202 = true then (if bt170.2 = 2 then (if bt183.2 = 2 then ((stickfullaw15_three.f 1).bind fun t203 => ((stickfullaw15_three.f 2).bind fun t206 => ((first_Alike.f t203 t206).bind fun t209 => (some t209)))) else (some false)) else (some false)) else (some false))) else (some false))) else (some false))) else (some false))))))) else (none))) = some r := H
 have A1 := Aside0.mk A10
 clear A10
 replace H := Option.bind_eq_some_iff.mp H
 obtain ⟨t163, A20, H⟩ := H
 replace H : (if 2 ≤ (t163.length : Int) then ((first_Lines.f k t160 (t163.take 2) 0 0 0 0).bind fun bt170 => ((stickfullaw15_three.f 1).bind fun t174 => ((stickfullaw15_three.f 2).bind fun t177 => ((first_Cells.f t174 t177 (([(⟨2, 4, false⟩ : S43)] : List (S43)))).bind fun bt183 => ((stickfullaw15_lines.f k 10 10 (([(⟨0, 1, false⟩ : S43), (⟨1, 3, false⟩ : S43)] : List (S43)))).bind fun t190 => (if t190 = true then ((stickfullaw15_lines.f k 20 5 (([(⟨0, 2, false⟩ : S43), (⟨2, 3, false⟩ : S43)] : List (S43)))).bind fun t194 => (if t194 = true then ((stickfullaw15_lines.f k 30 0 (([(⟨0, 3, false⟩ : S43)] : List (S43)))).bind fun t198 => (if t198 = true then ((stickfullaw15_lines.f k 0 0 (([(⟨0, 1, false⟩ : S43), (⟨1, 2, false⟩ : S43), (⟨2, 3, false⟩ : S43)] : List (S43)))).bind fun t202 => (if t202 = true then (if bt170.2 = 2 then (if bt183.2 = 2 then ((stickfullaw15_three.f 1).bind fun t203 => ((stickfullaw15_three.f 2).bind fun t206 => ((first_Alike.f t203 t206).bind fun t209 => (some t209)))) else (some false)) else (some false)) else (some false))) else (some false))) else (some false))) else (some false))))))) else (none)) = some r := H
 have A2 := Aside0.mk A20
 clear A20
 by_cases c3 : 2 ≤ (t163.length : Int)
 ·rw [if_pos c3] at H
  have c3b0 := eq_true c3
  have c3b1 : decide (2 ≤ (t163.length : Int)) = true := decide_eq_true c3
  clear c3
  obtain ⟨y166, hy166⟩ : ∃ y_ : List (S46), y_ = (t163.take 2) := ⟨_, rfl⟩
  replace H : ((first_Lines.f k t160 y166 0 0 0 0).bind fun bt170 => ((stickfullaw15_three.f 1).bind fun t174 => ((stickfullaw15_three.f 2).bind fun t177 => ((first_Cells.f t174 t177 (([(⟨2, 4, false⟩ : S43)] : List (S43)))).bind fun bt183 => ((stickfullaw15_lines.f k 10 10 (([(⟨0, 1, false⟩ : S43), (⟨1, 3, false⟩ : S43)] : List (S43)))).bind fun t190 => (if t190 = true then ((stickfullaw15_lines.f k 20 5 (([(⟨0, 2, false⟩ : S43), (⟨2, 3, false⟩ : S43)] : List (S43)))).bind fun t194 => (if t194 = true then ((stickfullaw15_lines.f k 30 0 (([(⟨0, 3, false⟩ : S43)] : List (S43)))).bind fun t198 => (if t198 = true then ((stickfullaw15_lines.f k 0 0 (([(⟨0, 1, false⟩ : S43), (⟨1, 2, false⟩ : S43), (⟨2, 3, false⟩ : S43)] : List (S43)))).bind fun t202 => (if t202 = true then (if bt170.2 = 2 then (if bt183.2 = 2 then ((stickfullaw15_three.f 1).bind fun t203 => ((stickfullaw15_three.f 2).bind fun t206 => ((first_Alike.f t203 t206).bind fun t209 => (some t209)))) else (some false)) else (some false)) else (some false))) else (some false))) else (some false))) else (some false))))))) = some r := by first | (rw [hy166]; with_reducible exact H) | (have H2_ := (Option.bind_some _ _).symm.trans H; rw [hy166]; with_reducible exact H2_) | (have H2_ := (Option.bind_some _ _).symm.trans H; with_reducible exact H2_) | with_reducible exact H | (rw [hy166]; exact H) | exact H
  have Ny166 := Aside0.mk hy166
  clear hy166
  replace H := Option.bind_eq_some_iff.mp H
  obtain ⟨⟨t170, t173⟩, A40, H⟩ := H
  replace H : ((stickfullaw15_three.f 1).bind fun t174 => ((stickfullaw15_three.f 2).bind fun t177 => ((first_Cells.f t174 t177 (([(⟨2, 4, false⟩ : S43)] : List (S43)))).bind fun bt183 => ((stickfullaw15_lines.f k 10 10 (([(⟨0, 1, false⟩ : S43), (⟨1, 3, false⟩ : S43)] : List (S43)))).bind fun t190 => (if t190 = true then ((stickfullaw15_lines.f k 20 5 (([(⟨0, 2, false⟩ : S43), (⟨2, 3, false⟩ : S43)] : List (S43)))).bind fun t194 => (if t194 = true then ((stickfullaw15_lines.f k 30 0 (([(⟨0, 3, false⟩ : S43)] : List (S43)))).bind fun t198 => (if t198 = true then ((stickfullaw15_lines.f k 0 0 (([(⟨0, 1, false⟩ : S43), (⟨1, 2, false⟩ : S43), (⟨2, 3, false⟩ : S43)] : List (S43)))).bind fun t202 => (if t202 = true then (if t173 = 2 then (if bt183.2 = 2 then ((stickfullaw15_three.f 1).bind fun t203 => ((stickfullaw15_three.f 2).bind fun t206 => ((first_Alike.f t203 t206).bind fun t209 => (some t209)))) else (some false)) else (some false)) else (some false))) else (some false))) else (some false))) else (some false)))))) = some r := H
  have A4 := Aside0.mk A40
  clear A40
  replace H := Option.bind_eq_some_iff.mp H
  obtain ⟨t174, A50, H⟩ := H
  replace H : ((stickfullaw15_three.f 2).bind fun t177 => ((first_Cells.f t174 t177 (([(⟨2, 4, false⟩ : S43)] : List (S43)))).bind fun bt183 => ((stickfullaw15_lines.f k 10 10 (([(⟨0, 1, false⟩ : S43), (⟨1, 3, false⟩ : S43)] : List (S43)))).bind fun t190 => (if t190 = true then ((stickfullaw15_lines.f k 20 5 (([(⟨0, 2, false⟩ : S43), (⟨2, 3, false⟩ : S43)] : List (S43)))).bind fun t194 => (if t194 = true then ((stickfullaw15_lines.f k 30 0 (([(⟨0, 3, false⟩ : S43)] : List (S43)))).bind fun t198 => (if t198 = true then ((stickfullaw15_lines.f k 0 0 (([(⟨0, 1, false⟩ : S43), (⟨1, 2, false⟩ : S43), (⟨2, 3, false⟩ : S43)] : List (S43)))).bind fun t202 => (if t202 = true then (if t173 = 2 then (if bt183.2 = 2 then ((stickfullaw15_three.f 1).bind fun t203 => ((stickfullaw15_three.f 2).bind fun t206 => ((first_Alike.f t203 t206).bind fun t209 => (some t209)))) else (some false)) else (some false)) else (some false))) else (some false))) else (some false))) else (some false))))) = some r := H
  have A5 := Aside0.mk A50
  clear A50
  replace H := Option.bind_eq_some_iff.mp H
  obtain ⟨t177, A60, H⟩ := H
  replace H : ((first_Cells.f t174 t177 (([(⟨2, 4, false⟩ : S43)] : List (S43)))).bind fun bt183 => ((stickfullaw15_lines.f k 10 10 (([(⟨0, 1, false⟩ : S43), (⟨1, 3, false⟩ : S43)] : List (S43)))).bind fun t190 => (if t190 = true then ((stickfullaw15_lines.f k 20 5 (([(⟨0, 2, false⟩ : S43), (⟨2, 3, false⟩ : S43)] : List (S43)))).bind fun t194 => (if t194 = true then ((stickfullaw15_lines.f k 30 0 (([(⟨0, 3, false⟩ : S43)] : List (S43)))).bind fun t198 => (if t198 = true then ((stickfullaw15_lines.f k 0 0 (([(⟨0, 1, false⟩ : S43), (⟨1, 2, false⟩ : S43), (⟨2, 3, false⟩ : S43)] : List (S43)))).bind fun t202 => (if t202 = true then (if t173 = 2 then (if bt183.2 = 2 then ((stickfullaw15_three.f 1).bind fun t203 => ((stickfullaw15_three.f 2).bind fun t206 => ((first_Alike.f t203 t206).bind fun t209 => (some t209)))) else (some false)) else (some false)) else (some false))) else (some false))) else (some false))) else (some false)))) = some r := H
  have A6 := Aside0.mk A60
  clear A60
  obtain ⟨y180, hy180⟩ : ∃ y_ : List (S43), y_ = (([(⟨2, 4, false⟩ : S43)] : List (S43))) := ⟨_, rfl⟩
  replace H : ((first_Cells.f t174 t177 y180).bind fun bt183 => ((stickfullaw15_lines.f k 10 10 (([(⟨0, 1, false⟩ : S43), (⟨1, 3, false⟩ : S43)] : List (S43)))).bind fun t190 => (if t190 = true then ((stickfullaw15_lines.f k 20 5 (([(⟨0, 2, false⟩ : S43), (⟨2, 3, false⟩ : S43)] : List (S43)))).bind fun t194 => (if t194 = true then ((stickfullaw15_lines.f k 30 0 (([(⟨0, 3, false⟩ : S43)] : List (S43)))).bind fun t198 => (if t198 = true then ((stickfullaw15_lines.f k 0 0 (([(⟨0, 1, false⟩ : S43), (⟨1, 2, false⟩ : S43), (⟨2, 3, false⟩ : S43)] : List (S43)))).bind fun t202 => (if t202 = true then (if t173 = 2 then (if bt183.2 = 2 then ((stickfullaw15_three.f 1).bind fun t203 => ((stickfullaw15_three.f 2).bind fun t206 => ((first_Alike.f t203 t206).bind fun t209 => (some t209)))) else (some false)) else (some false)) else (some false))) else (some false))) else (some false))) else (some false)))) = some r := by first | (rw [hy180]; with_reducible exact H) | (have H2_ := (Option.bind_some _ _).symm.trans H; rw [hy180]; with_reducible exact H2_) | (have H2_ := (Option.bind_some _ _).symm.trans H; with_reducible exact H2_) | with_reducible exact H | (rw [hy180]; exact H) | exact H
  have Ny180 := Aside0.mk hy180
  clear hy180
  replace H := Option.bind_eq_some_iff.mp H
  obtain ⟨⟨t183, t184⟩, A70, H⟩ := H
  replace H : ((stickfullaw15_lines.f k 10 10 (([(⟨0, 1, false⟩ : S43), (⟨1, 3, false⟩ : S43)] : List (S43)))).bind fun t190 => (if t190 = true then ((stickfullaw15_lines.f k 20 5 (([(⟨0, 2, false⟩ : S43), (⟨2, 3, false⟩ : S43)] : List (S43)))).bind fun t194 => (if t194 = true then ((stickfullaw15_lines.f k 30 0 (([(⟨0, 3, false⟩ : S43)] : List (S43)))).bind fun t198 => (if t198 = true then ((stickfullaw15_lines.f k 0 0 (([(⟨0, 1, false⟩ : S43), (⟨1, 2, false⟩ : S43), (⟨2, 3, false⟩ : S43)] : List (S43)))).bind fun t202 => (if t202 = true then (if t173 = 2 then (if t184 = 2 then ((stickfullaw15_three.f 1).bind fun t203 => ((stickfullaw15_three.f 2).bind fun t206 => ((first_Alike.f t203 t206).bind fun t209 => (some t209)))) else (some false)) else (some false)) else (some false))) else (some false))) else (some false))) else (some false))) = some r := H
  have A7 := Aside0.mk A70
  clear A70
  obtain ⟨y187, hy187⟩ : ∃ y_ : List (S43), y_ = (([(⟨0, 1, false⟩ : S43), (⟨1, 3, false⟩ : S43)] : List (S43))) := ⟨_, rfl⟩
  replace H : ((stickfullaw15_lines.f k 10 10 y187).bind fun t190 => (if t190 = true then ((stickfullaw15_lines.f k 20 5 (([(⟨0, 2, false⟩ : S43), (⟨2, 3, false⟩ : S43)] : List (S43)))).bind fun t194 => (if t194 = true then ((stickfullaw15_lines.f k 30 0 (([(⟨0, 3, false⟩ : S43)] : List (S43)))).bind fun t198 => (if t198 = true then ((stickfullaw15_lines.f k 0 0 (([(⟨0, 1, false⟩ : S43), (⟨1, 2, false⟩ : S43), (⟨2, 3, false⟩ : S43)] : List (S43)))).bind fun t202 => (if t202 = true then (if t173 = 2 then (if t184 = 2 then ((stickfullaw15_three.f 1).bind fun t203 => ((stickfullaw15_three.f 2).bind fun t206 => ((first_Alike.f t203 t206).bind fun t209 => (some t209)))) else (some false)) else (some false)) else (some false))) else (some false))) else (some false))) else (some false))) = some r := by first | (rw [hy187]; with_reducible exact H) | (have H2_ := (Option.bind_some _ _).symm.trans H; rw [hy187]; with_reducible exact H2_) | (have H2_ := (Option.bind_some _ _).symm.trans H; with_reducible exact H2_) | with_reducible exact H | (rw [hy187]; exact H) | exact H
  have Ny187 := Aside0.mk hy187
  clear hy187
  replace H := Option.bind_eq_some_iff.mp H
  obtain ⟨t190, A80, H⟩ := H
  replace H : (if t190 = true then ((stickfullaw15_lines.f k 20 5 (([(⟨0, 2, false⟩ : S43), (⟨2, 3, false⟩ : S43)] : List (S43)))).bind fun t194 => (if t194 = true then ((stickfullaw15_lines.f k 30 0 (([(⟨0, 3, false⟩ : S43)] : List (S43)))).bind fun t198 => (if t198 = true then ((stickfullaw15_lines.f k 0 0 (([(⟨0, 1, false⟩ : S43), (⟨1, 2, false⟩ : S43), (⟨2, 3, false⟩ : S43)] : List (S43)))).bind fun t202 => (if t202 = true then (if t173 = 2 then (if t184 = 2 then ((stickfullaw15_three.f 1).bind fun t203 => ((stickfullaw15_three.f 2).bind fun t206 => ((first_Alike.f t203 t206).bind fun t209 => (some t209)))) else (some false)) else (some false)) else (some false))) else (some false))) else (some false))) else (some false)) = some r := H
  have A8 := Aside0.mk A80
  clear A80
  by_cases c9 : t190 = true
  ·subst c9
   have H1 : ((stickfullaw15_lines.f k 20 5 (([(⟨0, 2, false⟩ : S43), (⟨2, 3, false⟩ : S43)] : List (S43)))).bind fun t194 => (if t194 = true then ((stickfullaw15_lines.f k 30 0 (([(⟨0, 3, false⟩ : S43)] : List (S43)))).bind fun t198 => (if t198 = true then ((stickfullaw15_lines.f k 0 0 (([(⟨0, 1, false⟩ : S43), (⟨1, 2, false⟩ : S43), (⟨2, 3, false⟩ : S43)] : List (S43)))).bind fun t202 => (if t202 = true then (if t173 = 2 then (if t184 = 2 then ((stickfullaw15_three.f 1).bind fun t203 => ((stickfullaw15_three.f 2).bind fun t206 => ((first_Alike.f t203 t206).bind fun t209 => (some t209)))) else (some false)) else (some false)) else (some false))) else (some false))) else (some false))) = some r := by rw [if_pos rfl] at H; exact H
   clear H
   have H := H1
   clear H1
   obtain ⟨y191, hy191⟩ : ∃ y_ : List (S43), y_ = (([(⟨0, 2, false⟩ : S43), (⟨2, 3, false⟩ : S43)] : List (S43))) := ⟨_, rfl⟩
   replace H : ((stickfullaw15_lines.f k 20 5 y191).bind fun t194 => (if t194 = true then ((stickfullaw15_lines.f k 30 0 (([(⟨0, 3, false⟩ : S43)] : List (S43)))).bind fun t198 => (if t198 = true then ((stickfullaw15_lines.f k 0 0 (([(⟨0, 1, false⟩ : S43), (⟨1, 2, false⟩ : S43), (⟨2, 3, false⟩ : S43)] : List (S43)))).bind fun t202 => (if t202 = true then (if t173 = 2 then (if t184 = 2 then ((stickfullaw15_three.f 1).bind fun t203 => ((stickfullaw15_three.f 2).bind fun t206 => ((first_Alike.f t203 t206).bind fun t209 => (some t209)))) else (some false)) else (some false)) else (some false))) else (some false))) else (some false))) = some r := by first | (rw [hy191]; with_reducible exact H) | (have H2_ := (Option.bind_some _ _).symm.trans H; rw [hy191]; with_reducible exact H2_) | (have H2_ := (Option.bind_some _ _).symm.trans H; with_reducible exact H2_) | with_reducible exact H | (rw [hy191]; exact H) | exact H
   have Ny191 := Aside0.mk hy191
   clear hy191
   replace H := Option.bind_eq_some_iff.mp H
   obtain ⟨t194, A100, H⟩ := H
   replace H : (if t194 = true then ((stickfullaw15_lines.f k 30 0 (([(⟨0, 3, false⟩ : S43)] : List (S43)))).bind fun t198 => (if t198 = true then ((stickfullaw15_lines.f k 0 0 (([(⟨0, 1, false⟩ : S43), (⟨1, 2, false⟩ : S43), (⟨2, 3, false⟩ : S43)] : List (S43)))).bind fun t202 => (if t202 = true then (if t173 = 2 then (if t184 = 2 then ((stickfullaw15_three.f 1).bind fun t203 => ((stickfullaw15_three.f 2).bind fun t206 => ((first_Alike.f t203 t206).bind fun t209 => (some t209)))) else (some false)) else (some false)) else (some false))) else (some false))) else (some false)) = some r := H
   have A10 := Aside0.mk A100
   clear A100
   by_cases c11 : t194 = true
   ·subst c11
    have H1 : ((stickfullaw15_lines.f k 30 0 (([(⟨0, 3, false⟩ : S43)] : List (S43)))).bind fun t198 => (if t198 = true then ((stickfullaw15_lines.f k 0 0 (([(⟨0, 1, false⟩ : S43), (⟨1, 2, false⟩ : S43), (⟨2, 3, false⟩ : S43)] : List (S43)))).bind fun t202 => (if t202 = true then (if t173 = 2 then (if t184 = 2 then ((stickfullaw15_three.f 1).bind fun t203 => ((stickfullaw15_three.f 2).bind fun t206 => ((first_Alike.f t203 t206).bind fun t209 => (some t209)))) else (some false)) else (some false)) else (some false))) else (some false))) = some r := by rw [if_pos rfl] at H; exact H
    clear H
    have H := H1
    clear H1
    obtain ⟨y195, hy195⟩ : ∃ y_ : List (S43), y_ = (([(⟨0, 3, false⟩ : S43)] : List (S43))) := ⟨_, rfl⟩
    replace H : ((stickfullaw15_lines.f k 30 0 y195).bind fun t198 => (if t198 = true then ((stickfullaw15_lines.f k 0 0 (([(⟨0, 1, false⟩ : S43), (⟨1, 2, false⟩ : S43), (⟨2, 3, false⟩ : S43)] : List (S43)))).bind fun t202 => (if t202 = true then (if t173 = 2 then (if t184 = 2 then ((stickfullaw15_three.f 1).bind fun t203 => ((stickfullaw15_three.f 2).bind fun t206 => ((first_Alike.f t203 t206).bind fun t209 => (some t209)))) else (some false)) else (some false)) else (some false))) else (some false))) = some r := by first | (rw [hy195]; with_reducible exact H) | (have H2_ := (Option.bind_some _ _).symm.trans H; rw [hy195]; with_reducible exact H2_) | (have H2_ := (Option.bind_some _ _).symm.trans H; with_reducible exact H2_) | with_reducible exact H | (rw [hy195]; exact H) | exact H
    have Ny195 := Aside0.mk hy195
    clear hy195
    replace H := Option.bind_eq_some_iff.mp H
    obtain ⟨t198, A120, H⟩ := H
    replace H : (if t198 = true then ((stickfullaw15_lines.f k 0 0 (([(⟨0, 1, false⟩ : S43), (⟨1, 2, false⟩ : S43), (⟨2, 3, false⟩ : S43)] : List (S43)))).bind fun t202 => (if t202 = true then (if t173 = 2 then (if t184 = 2 then ((stickfullaw15_three.f 1).bind fun t203 => ((stickfullaw15_three.f 2).bind fun t206 => ((first_Alike.f t203 t206).bind fun t209 => (some t209)))) else (some false)) else (some false)) else (some false))) else (some false)) = some r := H
    have A12 := Aside0.mk A120
    clear A120
    by_cases c13 : t198 = true
    ·subst c13
     have H1 : ((stickfullaw15_lines.f k 0 0 (([(⟨0, 1, false⟩ : S43), (⟨1, 2, false⟩ : S43), (⟨2, 3, false⟩ : S43)] : List (S43)))).bind fun t202 => (if t202 = true then (if t173 = 2 then (if t184 = 2 then ((stickfullaw15_three.f 1).bind fun t203 => ((stickfullaw15_three.f 2).bind fun t206 => ((first_Alike.f t203 t206).bind fun t209 => (some t209)))) else (some false)) else (some false)) else (some false))) = some r := by rw [if_pos rfl] at H; exact H
     clear H
     have H := H1
     clear H1
     obtain ⟨y199, hy199⟩ : ∃ y_ : List (S43), y_ = (([(⟨0, 1, false⟩ : S43), (⟨1, 2, false⟩ : S43), (⟨2, 3, false⟩ : S43)] : List (S43))) := ⟨_, rfl⟩
     replace H : ((stickfullaw15_lines.f k 0 0 y199).bind fun t202 => (if t202 = true then (if t173 = 2 then (if t184 = 2 then ((stickfullaw15_three.f 1).bind fun t203 => ((stickfullaw15_three.f 2).bind fun t206 => ((first_Alike.f t203 t206).bind fun t209 => (some t209)))) else (some false)) else (some false)) else (some false))) = some r := by first | (rw [hy199]; with_reducible exact H) | (have H2_ := (Option.bind_some _ _).symm.trans H; rw [hy199]; with_reducible exact H2_) | (have H2_ := (Option.bind_some _ _).symm.trans H; with_reducible exact H2_) | with_reducible exact H | (rw [hy199]; exact H) | exact H
     have Ny199 := Aside0.mk hy199
     clear hy199
     replace H := Option.bind_eq_some_iff.mp H
     obtain ⟨t202, A140, H⟩ := H
     replace H : (if t202 = true then (if t173 = 2 then (if t184 = 2 then ((stickfullaw15_three.f 1).bind fun t203 => ((stickfullaw15_three.f 2).bind fun t206 => ((first_Alike.f t203 t206).bind fun t209 => (some t209)))) else (some false)) else (some false)) else (some false)) = some r := H
     have A14 := Aside0.mk A140
     clear A140
     by_cases c15 : t202 = true
     ·subst c15
      have H1 : (if t173 = 2 then (if t184 = 2 then ((stickfullaw15_three.f 1).bind fun t203 => ((stickfullaw15_three.f 2).bind fun t206 => ((first_Alike.f t203 t206).bind fun t209 => (some t209)))) else (some false)) else (some false)) = some r := by rw [if_pos rfl] at H; exact H
      clear H
      have H := H1
      clear H1
      by_cases c16 : t173 = 2
      ·rw [if_pos c16] at H
       have c16b0 : (t173 == 2) = true := beq_iff_eq.mpr c16
       have c16b1 : (t173 != 2) = false := bne_eq_false_iff_eq.mpr c16
       clear c16
       by_cases c17 : t184 = 2
       ·rw [if_pos c17] at H
        have c17b0 : (t184 == 2) = true := beq_iff_eq.mpr c17
        have c17b1 : (t184 != 2) = false := bne_eq_false_iff_eq.mpr c17
        clear c17
        replace H := Option.bind_eq_some_iff.mp H
        obtain ⟨t203, A180, H⟩ := H
        replace H : ((stickfullaw15_three.f 2).bind fun t206 => ((first_Alike.f t203 t206).bind fun t209 => (some t209))) = some r := H
        have A18 := Aside0.mk A180
        clear A180
        replace H := Option.bind_eq_some_iff.mp H
        obtain ⟨t206, A190, H⟩ := H
        replace H : ((first_Alike.f t203 t206).bind fun t209 => (some t209)) = some r := H
        have A19 := Aside0.mk A190
        clear A190
        replace H := Option.bind_eq_some_iff.mp H
        obtain ⟨t209, A200, H⟩ := H
        replace H : (some t209) = some r := H
        have A20 := Aside0.mk A200
        clear A200
        obtain rfl := Option.some.inj H
        go_enter Try.func8, Try.ntmps8
        go_wp2_with (first | ((with_reducible refine gate_callee (f := 19) rfl ?_); refine goesB (some 6) rfl rfl Try.func19 #[.int .i64 10] rfl ?_; (with_reducible refine (stickfullaw15_three.calls 10 t160 _ A1.out).mono ?_); rintro e w21 ⟨v161, rfl, ho0, hb⟩; refine ⟨_, rfl, ?_⟩; have HO162 := Aside0.mk (Kd.R_lower ho0 (below_size (bw HB))); replace HB := bh HB hb; (try clear hb); (try clear hb2); (try clear hk); (try clear hi); (try clear ho0)) | ((with_reducible refine gate_callee (f := 19) rfl ?_); refine goesB (some 7) rfl rfl Try.func19 #[.int .i64 5] rfl ?_; (with_reducible refine (stickfullaw15_three.calls 5 t163 _ A2.out).mono ?_); rintro e w22 ⟨v164, rfl, ho0, hb⟩; refine ⟨_, rfl, ?_⟩; have HO165 := Aside0.mk (Kd.R_lower (Kd.R_new' ho0 (Kd.R_lt (rx HO162))) (below_size (bw HB))); replace HO162 := Aside0.mk (Kd.R_elder' (rx HO162) (Kd.R_base ho0) hb); replace HB := bh HB hb; (try clear hb); (try clear hb2); (try clear hk); (try clear hi); (try clear ho0); obtain ⟨Ao24, co24, eo24⟩ := Kd.R_slice HO165.out; subst eo24; have q23 : (2 : Int) ≤ ((t163.length : Int) : Int) := of_decide_eq_true (by first | (with_reducible assumption) | assumption); obtain ⟨i023, hi023, _, hsz23, _⟩ := info_parts info46; have hroom23 : t163.length ≤ co24 := (Kd.R_reads' HO165.out).2.1; have hC23 : Kd.C k46 _ Ao24 t163.length t163 := (Kd.R_reads' HO165.out).2.2; have hcut23 := cut_to (P := Try.prog) 22 46 .i64 Try.underlying22 hi023 Ao24 t163.length co24 2 (by omega) q23 hroom23; have hr23 := Kd.C_take (m := 2) hC23 (by omega); have hy23 : y166.length = (2 : Int).toNat := (by rw [Ny166.out, List.length_take]; omega); rw [← Ny166.out] at hr23; rw [← hy23] at hcut23; have HR169 := Aside0.mk hr23; have HC169 := Aside0.mk (show y166.length ≤ co24 from by omega); clear hr23 hC23 hroom23 hi023 hsz23; have KY23 := Aside0.mk hy23; clear hy23; have KL23 := Aside0.mk (show 2 ≤ t163.length from by omega); replace q23 := eq_true q23; obtain ⟨Ao25, co25, eo25⟩ := Kd.R_slice HO162.out; subst eo25) | ((with_reducible refine gate_callee (f := 9) rfl ?_); refine goesB (some 11) rfl rfl Try.func9 #[.slice Ao25 t160.length co25, .slice Ao24 y166.length co24, .agg #[.int .i64 0, .int .i64 0], .agg #[.int .i64 0, .int .i64 0]] rfl ?_; (with_reducible refine (first_Lines.calls k _ _ t160 _ _ y166 0 0 0 0 t170 t173 _ ?side1 ?side2 ?side3 ?side4 A4.out).mono ?_); (case side1 => repeat (first | exact (Kd.R_reads' HO162.out).2.2 | (with_reducible refine Kd.C_alloc ?_ _) | (with_reducible refine Kd.C_drewN ?_ _) | (with_reducible refine Kd.C_drew ?_))); (case side2 => exact (Kd.R_reads' HO162.out).2.1); (case side3 => repeat (first | exact (by repeat (first | (with_reducible exact HR169.out) | (with_reducible refine Kd.C_alloc ?_ _) | (with_reducible refine Kd.C_drewN ?_ _) | (with_reducible refine Kd.C_drew ?_) | exact HR169.out)) | (with_reducible refine Kd.C_alloc ?_ _) | (with_reducible refine Kd.C_drewN ?_ _) | (with_reducible refine Kd.C_drew ?_))); (case side4 => exact HC169.out); rintro e w26 ⟨v171, rfl, ho0, hb⟩; refine ⟨_, rfl, ?_⟩; replace HO162 := Aside0.mk (Kd.R_below (rx HO162) hb); replace HO165 := Aside0.mk (Kd.R_below (rx HO165) hb); have HO172 := Aside0.mk (Kd.R_lower ho0 (below_size (bw HB))); replace HR169 := Aside0.mk (Kd.C_below (by repeat (first | (with_reducible exact HR169.out) | (with_reducible refine Kd.C_alloc ?_ _) | (with_reducible refine Kd.C_drewN ?_ _) | (with_reducible refine Kd.C_drew ?_) | exact HR169.out)) hb); replace HB := bh HB hb; (try clear hb); (try clear hb2); (try clear hk); (try clear hi); (try clear ho0)) | ((with_reducible refine gate_callee (f := 19) rfl ?_); refine goesB (some 15) rfl rfl Try.func19 #[.int .i64 1] rfl ?_; (with_reducible refine (stickfullaw15_three.calls 1 t174 _ A5.out).mono ?_); rintro e w27 ⟨v175, rfl, ho0, hb⟩; refine ⟨_, rfl, ?_⟩; replace HO172 := Aside0.mk (Kd.R_below (rx HO172) hb); have HO176 := Aside0.mk (Kd.R_lower (Kd.R_new' (Kd.R_new' ho0 (Kd.R_lt (rx HO162))) (Kd.R_lt (rx HO165))) (below_size (bw HB))); replace HO162 := Aside0.mk (Kd.R_elder' (rx HO162) (Kd.R_base ho0) hb); replace HO165 := Aside0.mk (Kd.R_elder' (rx HO165) (Kd.R_base ho0) hb); replace HR169 := Aside0.mk (Kd.C_below (by repeat (first | (with_reducible exact HR169.out) | (with_reducible refine Kd.C_alloc ?_ _) | (with_reducible refine Kd.C_drewN ?_ _) | (with_reducible refine Kd.C_drew ?_) | exact HR169.out)) hb); replace HB := bh HB hb; (try clear hb); (try clear hb2); (try clear hk); (try clear hi); (try clear ho0)) | ((with_reducible refine gate_callee (f := 19) rfl ?_); refine goesB (some 16) rfl rfl Try.func19 #[.int .i64 2] rfl ?_; (with_reducible refine (stickfullaw15_three.calls 2 t177 _ A6.out).mono ?_); rintro e w28 ⟨v178, rfl, ho0, hb⟩; refine ⟨_, rfl, ?_⟩; replace HO172 := Aside0.mk (Kd.R_below (rx HO172) hb); have HO179 := Aside0.mk (Kd.R_lower (Kd.R_new' (Kd.R_new' (Kd.R_new' ho0 (Kd.R_lt (rx HO162))) (Kd.R_lt (rx HO165))) (Kd.R_lt (rx HO176))) (below_size (bw HB))); replace HO162 := Aside0.mk (Kd.R_elder' (rx HO162) (Kd.R_base ho0) hb); replace HO165 := Aside0.mk (Kd.R_elder' (rx HO165) (Kd.R_base ho0) hb); replace HO176 := Aside0.mk (Kd.R_elder' (rx HO176) (Kd.R_base ho0) hb); replace HR169 := Aside0.mk (Kd.C_below (by repeat (first | (with_reducible exact HR169.out) | (with_reducible refine Kd.C_alloc ?_ _) | (with_reducible refine Kd.C_drewN ?_ _) | (with_reducible refine Kd.C_drew ?_) | exact HR169.out)) hb); replace HB := bh HB hb; (try clear hb); (try clear hb2); (try clear hk); (try clear hi); (try clear ho0)) | ((with_reducible refine gate_dst (N := 18) rfl ?_); (try (refine gate_guard (by rfl) ?_; dsimp only)); refine Kd.R_lit k43 _ 43 ?hg (N := 18) ?hd (xs := ([(⟨2, 4, false⟩ : S43)] : List (S43))) (inner := [.int .i64 2, .int .i64 4, .bool false]) (ok := fun _ => True) (okp := fun _ => True) ?hr ?hp (fun _ hk => hk) trivial (Below.refl _ _) (Nat.le_refl _) (by simp) ?_; (case hd => rfl); (case hg => rfl); (case hr => first | (go_simp; done) | (go_simp; rfl)); (case hp => exact (Reps.c3 (show Kd.M k43 _ _ _ (⟨2, 4, false⟩ : S43) [.int .i64 2, .int .i64 4, .bool false] from (k43_mkM _ _ _ (⟨2, 4, false⟩ : S43) )) (Reps.none _ _))); intro v181 w29 ho30 hb hg_ hnew_; clear hg_ hnew_; (first | rw [← Ny180.out] at ho30 | (simp only [Int.reduceToNat] at ho30; rw [← Ny180.out] at ho30)); replace HO162 := Aside0.mk (Kd.R_below (rx HO162) hb); replace HO165 := Aside0.mk (Kd.R_below (rx HO165) hb); replace HO176 := Aside0.mk (Kd.R_below (rx HO176) hb); replace HO179 := Aside0.mk (Kd.R_below (rx HO179) hb); have HO182 := Aside0.mk (Kd.R_lower (Kd.R_new' ho30 (Kd.R_lt (rx HO172))) (below_size (bw HB))); replace HO172 := Aside0.mk (Kd.R_elder' (rx HO172) (Kd.R_base ho30) hb); replace HR169 := Aside0.mk (Kd.C_below (by repeat (first | (with_reducible exact HR169.out) | (with_reducible refine Kd.C_alloc ?_ _) | (with_reducible refine Kd.C_drewN ?_ _) | (with_reducible refine Kd.C_drew ?_) | exact HR169.out)) hb); replace HB := bh HB hb; clear hb ho30; obtain ⟨Ao31, co31, eo31⟩ := Kd.R_slice HO176.out; subst eo31; obtain ⟨Ao32, co32, eo32⟩ := Kd.R_slice HO179.out; subst eo32; obtain ⟨Ao33, co33, eo33⟩ := Kd.R_slice HO182.out; subst eo33) | ((with_reducible refine gate_callee (f := 14) rfl ?_); refine goesB (some 19) rfl rfl Try.func14 #[.slice Ao31 t174.length co31, .slice Ao32 t177.length co32, .slice Ao33 y180.length co33] rfl ?_; (with_reducible refine (first_Cells.calls _ _ t174 _ _ t177 _ _ y180 t183 t184 _ ?side1 ?side2 ?side3 ?side4 ?side5 ?side6 A7.out).mono ?_); (case side1 => repeat (first | exact (Kd.R_reads' HO176.out).2.2 | (with_reducible refine Kd.C_alloc ?_ _) | (with_reducible refine Kd.C_drewN ?_ _) | (with_reducible refine Kd.C_drew ?_))); (case side2 => exact (Kd.R_reads' HO176.out).2.1); (case side3 => repeat (first | exact (Kd.R_reads' HO179.out).2.2 | (with_reducible refine Kd.C_alloc ?_ _) | (with_reducible refine Kd.C_drewN ?_ _) | (with_reducible refine Kd.C_drew ?_))); (case side4 => exact (Kd.R_reads' HO179.out).2.1); (case side5 => repeat (first | exact (Kd.R_reads' HO182.out).2.2 | (with_reducible refine Kd.C_alloc ?_ _) | (with_reducible refine Kd.C_drewN ?_ _) | (with_reducible refine Kd.C_drew ?_))); (case side6 => exact (Kd.R_reads' HO182.out).2.1); rintro e w34 ⟨v185, rfl, ho0, hb⟩; refine ⟨_, rfl, ?_⟩; replace HO172 := Aside0.mk (Kd.R_below (rx HO172) hb); replace HO182 := Aside0.mk (Kd.R_below (rx HO182) hb); have HO186 := Aside0.mk (Kd.S_lower (Kd.S_new' (Kd.S_new' (Kd.S_new' (Kd.S_new' ho0 (Kd.R_lt (rx HO162))) (Kd.R_lt (rx HO165))) (Kd.R_lt (rx HO176))) (Kd.R_lt (rx HO179))) (below_size (bw HB))); replace HO162 := Aside0.mk (Kd.R_below (rx HO162) hb); replace HO165 := Aside0.mk (Kd.R_below (rx HO165) hb); replace HO176 := Aside0.mk (Kd.R_below (rx HO176) hb); replace HO179 := Aside0.mk (Kd.R_below (rx HO179) hb); replace HR169 := Aside0.mk (Kd.C_below (by repeat (first | (with_reducible exact HR169.out) | (with_reducible refine Kd.C_alloc ?_ _) | (with_reducible refine Kd.C_drewN ?_ _) | (with_reducible refine Kd.C_drew ?_) | exact HR169.out)) hb); replace HB := bh HB hb; (try clear hb); (try clear hb2); (try clear hk); (try clear hi); (try clear ho0)) | ((with_reducible refine gate_dst (N := 24) rfl ?_); (try (refine gate_guard (by rfl) ?_; dsimp only)); refine Kd.R_lit k43 _ 43 ?hg (N := 24) ?hd (xs := ([(⟨0, 1, false⟩ : S43), (⟨1, 3, false⟩ : S43)] : List (S43))) (inner := [.int .i64 0, .int .i64 1, .bool false, .int .i64 1, .int .i64 3, .bool false]) (ok := fun _ => True) (okp := fun _ => True) ?hr ?hp (fun _ hk => hk) trivial (Below.refl _ _) (Nat.le_refl _) (by simp) ?_; (case hd => rfl); (case hg => rfl); (case hr => first | (go_simp; done) | (go_simp; rfl)); (case hp => exact (Reps.c3 (show Kd.M k43 _ _ _ (⟨0, 1, false⟩ : S43) [.int .i64 0, .int .i64 1, .bool false] from (k43_mkM _ _ _ (⟨0, 1, false⟩ : S43) )) (Reps.c3 (show Kd.M k43 _ _ _ (⟨1, 3, false⟩ : S43) [.int .i64 1, .int .i64 3, .bool false] from (k43_mkM _ _ _ (⟨1, 3, false⟩ : S43) )) (Reps.none _ _)))); intro v188 w35 ho36 hb hg_ hnew_; clear hg_ hnew_; (first | rw [← Ny187.out] at ho36 | (simp only [Int.reduceToNat] at ho36; rw [← Ny187.out] at ho36)); replace HO162 := Aside0.mk (Kd.R_below (rx HO162) hb); replace HO165 := Aside0.mk (Kd.R_below (rx HO165) hb); replace HO176 := Aside0.mk (Kd.R_below (rx HO176) hb); replace HO179 := Aside0.mk (Kd.R_below (rx HO179) hb); replace HO186 := Aside0.mk (Kd.S_below (by (with_reducible repeat (first | apply Kd.S_alloc | apply Kd.S_drewN | apply Kd.S_drew)); exact HO186.out) hb); have HO189 := Aside0.mk (Kd.R_lower (Kd.R_new' (Kd.R_new' ho36 (Kd.R_lt (rx HO172))) (Kd.R_lt (rx HO182))) (below_size (bw HB))); replace HO172 := Aside0.mk (Kd.R_elder' (rx HO172) (Kd.R_base ho36) hb); replace HO182 := Aside0.mk (Kd.R_elder' (rx HO182) (Kd.R_base ho36) hb); replace HR169 := Aside0.mk (Kd.C_below (by repeat (first | (with_reducible exact HR169.out) | (with_reducible refine Kd.C_alloc ?_ _) | (with_reducible refine Kd.C_drewN ?_ _) | (with_reducible refine Kd.C_drew ?_) | exact HR169.out)) hb); replace HB := bh HB hb; clear hb ho36; obtain ⟨Ao37, co37, eo37⟩ := Kd.R_slice HO189.out; subst eo37) | ((with_reducible refine gate_callee (f := 20) rfl ?_); refine goesB (some 25) rfl rfl Try.func20 #[.int .i64 10, .int .i64 10, .slice Ao37 y187.length co37] rfl ?_; (with_reducible refine (stickfullaw15_lines.calls k 10 10 _ _ y187 true _ ?side1 ?side2 A8.out).mono ?_); (case side1 => repeat (first | exact (Kd.R_reads' HO189.out).2.2 | (with_reducible refine Kd.C_alloc ?_ _) | (with_reducible refine Kd.C_drewN ?_ _) | (with_reducible refine Kd.C_drew ?_))); (case side2 => exact (Kd.R_reads' HO189.out).2.1); rintro e w38 ⟨rfl, hb⟩; refine ⟨_, rfl, ?_⟩; replace HO162 := Aside0.mk (Kd.R_below (rx HO162) hb); replace HO165 := Aside0.mk (Kd.R_below (rx HO165) hb); replace HO172 := Aside0.mk (Kd.R_below (rx HO172) hb); replace HO176 := Aside0.mk (Kd.R_below (rx HO176) hb); replace HO179 := Aside0.mk (Kd.R_below (rx HO179) hb); replace HO182 := Aside0.mk (Kd.R_below (rx HO182) hb); replace HO186 := Aside0.mk (Kd.S_below (by (with_reducible repeat (first | apply Kd.S_alloc | apply Kd.S_drewN | apply Kd.S_drew)); exact HO186.out) hb); replace HO189 := Aside0.mk (Kd.R_below (rx HO189) hb); replace HR169 := Aside0.mk (Kd.C_below (by repeat (first | (with_reducible exact HR169.out) | (with_reducible refine Kd.C_alloc ?_ _) | (with_reducible refine Kd.C_drewN ?_ _) | (with_reducible refine Kd.C_drew ?_) | exact HR169.out)) hb); replace HB := bh HB hb; (try clear hb); (try clear hb2); (try clear hk); (try clear hi)) | ((with_reducible refine gate_dst (N := 29) rfl ?_); (try (refine gate_guard (by rfl) ?_; dsimp only)); refine Kd.R_lit k43 _ 43 ?hg (N := 29) ?hd (xs := ([(⟨0, 2, false⟩ : S43), (⟨2, 3, false⟩ : S43)] : List (S43))) (inner := [.int .i64 0, .int .i64 2, .bool false, .int .i64 2, .int .i64 3, .bool false]) (ok := fun _ => True) (okp := fun _ => True) ?hr ?hp (fun _ hk => hk) trivial (Below.refl _ _) (Nat.le_refl _) (by simp) ?_; (case hd => rfl); (case hg => rfl); (case hr => first | (go_simp; done) | (go_simp; rfl)); (case hp => exact (Reps.c3 (show Kd.M k43 _ _ _ (⟨0, 2, false⟩ : S43) [.int .i64 0, .int .i64 2, .bool false] from (k43_mkM _ _ _ (⟨0, 2, false⟩ : S43) )) (Reps.c3 (show Kd.M k43 _ _ _ (⟨2, 3, false⟩ : S43) [.int .i64 2, .int .i64 3, .bool false] from (k43_mkM _ _ _ (⟨2, 3, false⟩ : S43) )) (Reps.none _ _)))); intro v192 w39 ho40 hb hg_ hnew_; clear hg_ hnew_; (first | rw [← Ny191.out] at ho40 | (simp only [Int.reduceToNat] at ho40; rw [← Ny191.out] at ho40)); replace HO162 := Aside0.mk (Kd.R_below (rx HO162) hb); replace HO165 := Aside0.mk (Kd.R_below (rx HO165) hb); replace HO176 := Aside0.mk (Kd.R_below (rx HO176) hb); replace HO179 := Aside0.mk (Kd.R_below (rx HO179) hb); replace HO186 := Aside0.mk (Kd.S_below (by (with_reducible repeat (first | apply Kd.S_alloc | apply Kd.S_drewN | apply Kd.S_drew)); exact HO186.out) hb); have HO193 := Aside0.mk (Kd.R_lower (Kd.R_new' (Kd.R_new' (Kd.R_new' ho40 (Kd.R_lt (rx HO172))) (Kd.R_lt (rx HO182))) (Kd.R_lt (rx HO189))) (below_size (bw HB))); replace HO172 := Aside0.mk (Kd.R_elder' (rx HO172) (Kd.R_base ho40) hb); replace HO182 := Aside0.mk (Kd.R_elder' (rx HO182) (Kd.R_base ho40) hb); replace HO189 := Aside0.mk (Kd.R_elder' (rx HO189) (Kd.R_base ho40) hb); replace HR169 := Aside0.mk (Kd.C_below (by repeat (first | (with_reducible exact HR169.out) | (with_reducible refine Kd.C_alloc ?_ _) | (with_reducible refine Kd.C_drewN ?_ _) | (with_reducible refine Kd.C_drew ?_) | exact HR169.out)) hb); replace HB := bh HB hb; clear hb ho40; obtain ⟨Ao41, co41, eo41⟩ := Kd.R_slice HO193.out; subst eo41) | (go_at_call 20; (with_reducible refine (stickfullaw15_lines.calls k 20 5 _ _ y191 true _ ?side1 ?side2 A10.out).mono ?_); (case side1 => repeat (first | exact (Kd.R_reads' HO193.out).2.2 | (with_reducible refine Kd.C_alloc ?_ _) | (with_reducible refine Kd.C_drewN ?_ _) | (with_reducible refine Kd.C_drew ?_))); (case side2 => exact (Kd.R_reads' HO193.out).2.1); rintro e w42 ⟨rfl, hb⟩; replace HO162 := Aside0.mk (Kd.R_below (rx HO162) hb); replace HO165 := Aside0.mk (Kd.R_below (rx HO165) hb); replace HO172 := Aside0.mk (Kd.R_below (rx HO172) hb); replace HO176 := Aside0.mk (Kd.R_below (rx HO176) hb); replace HO179 := Aside0.mk (Kd.R_below (rx HO179) hb); replace HO182 := Aside0.mk (Kd.R_below (rx HO182) hb); replace HO186 := Aside0.mk (Kd.S_below (by (with_reducible repeat (first | apply Kd.S_alloc | apply Kd.S_drewN | apply Kd.S_drew)); exact HO186.out) hb); replace HO189 := Aside0.mk (Kd.R_below (rx HO189) hb); replace HO193 := Aside0.mk (Kd.R_below (rx HO193) hb); replace HR169 := Aside0.mk (Kd.C_below (by repeat (first | (with_reducible exact HR169.out) | (with_reducible refine Kd.C_alloc ?_ _) | (with_reducible refine Kd.C_drewN ?_ _) | (with_reducible refine Kd.C_drew ?_) | exact HR169.out)) hb); replace HB := bh HB hb; (try clear hb); (try clear hb2); (try clear hk); (try clear hi)) | ((with_reducible refine gate_dst (N := 34) rfl ?_); (try (refine gate_guard (by rfl) ?_; dsimp only)); refine Kd.R_lit k43 _ 43 ?hg (N := 34) ?hd (xs := ([(⟨0, 3, false⟩ : S43)] : List (S43))) (inner := [.int .i64 0, .int .i64 3, .bool false]) (ok := fun _ => True) (okp := fun _ => True) ?hr ?hp (fun _ hk => hk) trivial (Below.refl _ _) (Nat.le_refl _) (by simp) ?_; (case hd => rfl); (case hg => rfl); (case hr => first | (go_simp; done) | (go_simp; rfl)); (case hp => exact (Reps.c3 (show Kd.M k43 _ _ _ (⟨0, 3, false⟩ : S43) [.int .i64 0, .int .i64 3, .bool false] from (k43_mkM _ _ _ (⟨0, 3, false⟩ : S43) )) (Reps.none _ _))); intro v196 w43 ho44 hb hg_ hnew_; clear hg_ hnew_; (first | rw [← Ny195.out] at ho44 | (simp only [Int.reduceToNat] at ho44; rw [← Ny195.out] at ho44)); replace HO162 := Aside0.mk (Kd.R_below (rx HO162) hb); replace HO165 := Aside0.mk (Kd.R_below (rx HO165) hb); replace HO176 := Aside0.mk (Kd.R_below (rx HO176) hb); replace HO179 := Aside0.mk (Kd.R_below (rx HO179) hb); replace HO186 := Aside0.mk (Kd.S_below (by (with_reducible repeat (first | apply Kd.S_alloc | apply Kd.S_drewN | apply Kd.S_drew)); exact HO186.out) hb); have HO197 := Aside0.mk (Kd.R_lower (Kd.R_new' (Kd.R_new' (Kd.R_new' (Kd.R_new' ho44 (Kd.R_lt (rx HO172))) (Kd.R_lt (rx HO182))) (Kd.R_lt (rx HO189))) (Kd.R_lt (rx HO193))) (below_size (bw HB))); replace HO172 := Aside0.mk (Kd.R_elder' (rx HO172) (Kd.R_base ho44) hb); replace HO182 := Aside0.mk (Kd.R_elder' (rx HO182) (Kd.R_base ho44) hb); replace HO189 := Aside0.mk (Kd.R_elder' (rx HO189) (Kd.R_base ho44) hb); replace HO193 := Aside0.mk (Kd.R_elder' (rx HO193) (Kd.R_base ho44) hb); replace HR169 := Aside0.mk (Kd.C_below (by repeat (first | (with_reducible exact HR169.out) | (with_reducible refine Kd.C_alloc ?_ _) | (with_reducible refine Kd.C_drewN ?_ _) | (with_reducible refine Kd.C_drew ?_) | exact HR169.out)) hb); replace HB := bh HB hb; clear hb ho44; obtain ⟨Ao45, co45, eo45⟩ := Kd.R_slice HO197.out; subst eo45) | (go_at_call 20; (with_reducible refine (stickfullaw15_lines.calls k 30 0 _ _ y195 true _ ?side1 ?side2 A12.out).mono ?_); (case side1 => repeat (first | exact (Kd.R_reads' HO197.out).2.2 | (with_reducible refine Kd.C_alloc ?_ _) | (with_reducible refine Kd.C_drewN ?_ _) | (with_reducible refine Kd.C_drew ?_))); (case side2 => exact (Kd.R_reads' HO197.out).2.1); rintro e w46 ⟨rfl, hb⟩; replace HO162 := Aside0.mk (Kd.R_below (rx HO162) hb); replace HO165 := Aside0.mk (Kd.R_below (rx HO165) hb); replace HO172 := Aside0.mk (Kd.R_below (rx HO172) hb); replace HO176 := Aside0.mk (Kd.R_below (rx HO176) hb); replace HO179 := Aside0.mk (Kd.R_below (rx HO179) hb); replace HO182 := Aside0.mk (Kd.R_below (rx HO182) hb); replace HO186 := Aside0.mk (Kd.S_below (by (with_reducible repeat (first | apply Kd.S_alloc | apply Kd.S_drewN | apply Kd.S_drew)); exact HO186.out) hb); replace HO189 := Aside0.mk (Kd.R_below (rx HO189) hb); replace HO193 := Aside0.mk (Kd.R_below (rx HO193) hb); replace HO197 := Aside0.mk (Kd.R_below (rx HO197) hb); replace HR169 := Aside0.mk (Kd.C_below (by repeat (first | (with_reducible exact HR169.out) | (with_reducible refine Kd.C_alloc ?_ _) | (with_reducible refine Kd.C_drewN ?_ _) | (with_reducible refine Kd.C_drew ?_) | exact HR169.out)) hb); replace HB := bh HB hb; (try clear hb); (try clear hb2); (try clear hk); (try clear hi)) | ((with_reducible refine gate_dst (N := 41) rfl ?_); (try (refine gate_guard (by rfl) ?_; dsimp only)); refine Kd.R_lit k43 _ 43 ?hg (N := 41) ?hd (xs := ([(⟨0, 1, false⟩ : S43), (⟨1, 2, false⟩ : S43), (⟨2, 3, false⟩ : S43)] : List (S43))) (inner := [.int .i64 0, .int .i64 1, .bool false, .int .i64 1, .int .i64 2, .bool false, .int .i64 2, .int .i64 3, .bool false]) (ok := fun _ => True) (okp := fun _ => True) ?hr ?hp (fun _ hk => hk) trivial (Below.refl _ _) (Nat.le_refl _) (by simp) ?_; (case hd => rfl); (case hg => rfl); (case hr => first | (go_simp; done) | (go_simp; rfl)); (case hp => exact (Reps.c3 (show Kd.M k43 _ _ _ (⟨0, 1, false⟩ : S43) [.int .i64 0, .int .i64 1, .bool false] from (k43_mkM _ _ _ (⟨0, 1, false⟩ : S43) )) (Reps.c3 (show Kd.M k43 _ _ _ (⟨1, 2, false⟩ : S43) [.int .i64 1, .int .i64 2, .bool false] from (k43_mkM _ _ _ (⟨1, 2, false⟩ : S43) )) (Reps.c3 (show Kd.M k43 _ _ _ (⟨2, 3, false⟩ : S43) [.int .i64 2, .int .i64 3, .bool false] from (k43_mkM _ _ _ (⟨2, 3, false⟩ : S43) )) (Reps.none _ _))))); intro v200 w47 ho48 hb hg_ hnew_; clear hg_ hnew_; (first | rw [← Ny199.out] at ho48 | (simp only [Int.reduceToNat] at ho48; rw [← Ny199.out] at ho48)); replace HO162 := Aside0.mk (Kd.R_below (rx HO162) hb); replace HO165 := Aside0.mk (Kd.R_below (rx HO165) hb); replace HO176 := Aside0.mk (Kd.R_below (rx HO176) hb); replace HO179 := Aside0.mk (Kd.R_below (rx HO179) hb); replace HO186 := Aside0.mk (Kd.S_below (by (with_reducible repeat (first | apply Kd.S_alloc | apply Kd.S_drewN | apply Kd.S_drew)); exact HO186.out) hb); have HO201 := Aside0.mk (Kd.R_lower (Kd.R_new' (Kd.R_new' (Kd.R_new' (Kd.R_new' (Kd.R_new' ho48 (Kd.R_lt (rx HO172))) (Kd.R_lt (rx HO182))) (Kd.R_lt (rx HO189))) (Kd.R_lt (rx HO193))) (Kd.R_lt (rx HO197))) (below_size (bw HB))); replace HO172 := Aside0.mk (Kd.R_elder' (rx HO172) (Kd.R_base ho48) hb); replace HO182 := Aside0.mk (Kd.R_elder' (rx HO182) (Kd.R_base ho48) hb); replace HO189 := Aside0.mk (Kd.R_elder' (rx HO189) (Kd.R_base ho48) hb); replace HO193 := Aside0.mk (Kd.R_elder' (rx HO193) (Kd.R_base ho48) hb); replace HO197 := Aside0.mk (Kd.R_elder' (rx HO197) (Kd.R_base ho48) hb); replace HR169 := Aside0.mk (Kd.C_below (by repeat (first | (with_reducible exact HR169.out) | (with_reducible refine Kd.C_alloc ?_ _) | (with_reducible refine Kd.C_drewN ?_ _) | (with_reducible refine Kd.C_drew ?_) | exact HR169.out)) hb); replace HB := bh HB hb; clear hb ho48; obtain ⟨Ao49, co49, eo49⟩ := Kd.R_slice HO201.out; subst eo49) | (go_at_call 20; (with_reducible refine (stickfullaw15_lines.calls k 0 0 _ _ y199 true _ ?side1 ?side2 A14.out).mono ?_); (case side1 => repeat (first | exact (Kd.R_reads' HO201.out).2.2 | (with_reducible refine Kd.C_alloc ?_ _) | (with_reducible refine Kd.C_drewN ?_ _) | (with_reducible refine Kd.C_drew ?_))); (case side2 => exact (Kd.R_reads' HO201.out).2.1); rintro e w50 ⟨rfl, hb⟩; replace HO162 := Aside0.mk (Kd.R_below (rx HO162) hb); replace HO165 := Aside0.mk (Kd.R_below (rx HO165) hb); replace HO172 := Aside0.mk (Kd.R_below (rx HO172) hb); replace HO176 := Aside0.mk (Kd.R_below (rx HO176) hb); replace HO179 := Aside0.mk (Kd.R_below (rx HO179) hb); replace HO182 := Aside0.mk (Kd.R_below (rx HO182) hb); replace HO186 := Aside0.mk (Kd.S_below (by (with_reducible repeat (first | apply Kd.S_alloc | apply Kd.S_drewN | apply Kd.S_drew)); exact HO186.out) hb); replace HO189 := Aside0.mk (Kd.R_below (rx HO189) hb); replace HO193 := Aside0.mk (Kd.R_below (rx HO193) hb); replace HO197 := Aside0.mk (Kd.R_below (rx HO197) hb); replace HO201 := Aside0.mk (Kd.R_below (rx HO201) hb); replace HR169 := Aside0.mk (Kd.C_below (by repeat (first | (with_reducible exact HR169.out) | (with_reducible refine Kd.C_alloc ?_ _) | (with_reducible refine Kd.C_drewN ?_ _) | (with_reducible refine Kd.C_drew ?_) | exact HR169.out)) hb); replace HB := bh HB hb; (try clear hb); (try clear hb2); (try clear hk); (try clear hi)) | (go_at_call 19; (with_reducible refine (stickfullaw15_three.calls 1 t203 _ A18.out).mono ?_); rintro e w51 ⟨v204, rfl, ho0, hb⟩; replace HO172 := Aside0.mk (Kd.R_below (rx HO172) hb); replace HO182 := Aside0.mk (Kd.R_below (rx HO182) hb); replace HO186 := Aside0.mk (Kd.S_elder' (by (with_reducible repeat (first | apply Kd.S_alloc | apply Kd.S_drewN | apply Kd.S_drew)); exact HO186.out) (Kd.R_base ho0) hb); replace HO189 := Aside0.mk (Kd.R_below (rx HO189) hb); replace HO193 := Aside0.mk (Kd.R_below (rx HO193) hb); replace HO197 := Aside0.mk (Kd.R_below (rx HO197) hb); replace HO201 := Aside0.mk (Kd.R_below (rx HO201) hb); have HO205 := Aside0.mk (Kd.R_lower (Kd.R_new' (Kd.R_new' (Kd.R_new' (Kd.R_new' ho0 (Kd.R_lt (rx HO162))) (Kd.R_lt (rx HO165))) (Kd.R_lt (rx HO176))) (Kd.R_lt (rx HO179))) (below_size (bw HB))); replace HO162 := Aside0.mk (Kd.R_elder' (rx HO162) (Kd.R_base ho0) hb); replace HO165 := Aside0.mk (Kd.R_elder' (rx HO165) (Kd.R_base ho0) hb); replace HO176 := Aside0.mk (Kd.R_elder' (rx HO176) (Kd.R_base ho0) hb); replace HO179 := Aside0.mk (Kd.R_elder' (rx HO179) (Kd.R_base ho0) hb); replace HR169 := Aside0.mk (Kd.C_below (by repeat (first | (with_reducible exact HR169.out) | (with_reducible refine Kd.C_alloc ?_ _) | (with_reducible refine Kd.C_drewN ?_ _) | (with_reducible refine Kd.C_drew ?_) | exact HR169.out)) hb); replace HB := bh HB hb; (try clear hb); (try clear hb2); (try clear hk); (try clear hi); (try clear ho0)) | (go_at_call 19; (with_reducible refine (stickfullaw15_three.calls 2 t206 _ A19.out).mono ?_); rintro e w52 ⟨v207, rfl, ho0, hb⟩; replace HO172 := Aside0.mk (Kd.R_below (rx HO172) hb); replace HO182 := Aside0.mk (Kd.R_below (rx HO182) hb); replace HO186 := Aside0.mk (Kd.S_elder' (by (with_reducible repeat (first | apply Kd.S_alloc | apply Kd.S_drewN | apply Kd.S_drew)); exact HO186.out) (Kd.R_base ho0) hb); replace HO189 := Aside0.mk (Kd.R_below (rx HO189) hb); replace HO193 := Aside0.mk (Kd.R_below (rx HO193) hb); replace HO197 := Aside0.mk (Kd.R_below (rx HO197) hb); replace HO201 := Aside0.mk (Kd.R_below (rx HO201) hb); have HO208 := Aside0.mk (Kd.R_lower (Kd.R_new' (Kd.R_new' (Kd.R_new' (Kd.R_new' (Kd.R_new' ho0 (Kd.R_lt (rx HO162))) (Kd.R_lt (rx HO165))) (Kd.R_lt (rx HO176))) (Kd.R_lt (rx HO179))) (Kd.R_lt (rx HO205))) (below_size (bw HB))); replace HO162 := Aside0.mk (Kd.R_elder' (rx HO162) (Kd.R_base ho0) hb); replace HO165 := Aside0.mk (Kd.R_elder' (rx HO165) (Kd.R_base ho0) hb); replace HO176 := Aside0.mk (Kd.R_elder' (rx HO176) (Kd.R_base ho0) hb); replace HO179 := Aside0.mk (Kd.R_elder' (rx HO179) (Kd.R_base ho0) hb); replace HO205 := Aside0.mk (Kd.R_elder' (rx HO205) (Kd.R_base ho0) hb); replace HR169 := Aside0.mk (Kd.C_below (by repeat (first | (with_reducible exact HR169.out) | (with_reducible refine Kd.C_alloc ?_ _) | (with_reducible refine Kd.C_drewN ?_ _) | (with_reducible refine Kd.C_drew ?_) | exact HR169.out)) hb); replace HB := bh HB hb; (try clear hb); (try clear hb2); (try clear hk); (try clear hi); (try clear ho0); obtain ⟨Ao53, co53, eo53⟩ := Kd.R_slice HO205.out; subst eo53; obtain ⟨Ao54, co54, eo54⟩ := Kd.R_slice HO208.out; subst eo54) | (go_at_call 12; (with_reducible refine (first_Alike.calls _ _ t203 _ _ t206 t209 _ ?side1 ?side2 ?side3 ?side4 A20.out).mono ?_); (case side1 => repeat (first | exact (Kd.R_reads' HO205.out).2.2 | (with_reducible refine Kd.C_alloc ?_ _) | (with_reducible refine Kd.C_drewN ?_ _) | (with_reducible refine Kd.C_drew ?_))); (case side2 => exact (Kd.R_reads' HO205.out).2.1); (case side3 => repeat (first | exact (Kd.R_reads' HO208.out).2.2 | (with_reducible refine Kd.C_alloc ?_ _) | (with_reducible refine Kd.C_drewN ?_ _) | (with_reducible refine Kd.C_drew ?_))); (case side4 => exact (Kd.R_reads' HO208.out).2.1); rintro e w55 ⟨rfl, hb⟩; replace HO162 := Aside0.mk (Kd.R_below (rx HO162) hb); replace HO165 := Aside0.mk (Kd.R_below (rx HO165) hb); replace HO172 := Aside0.mk (Kd.R_below (rx HO172) hb); replace HO176 := Aside0.mk (Kd.R_below (rx HO176) hb); replace HO179 := Aside0.mk (Kd.R_below (rx HO179) hb); replace HO182 := Aside0.mk (Kd.R_below (rx HO182) hb); replace HO186 := Aside0.mk (Kd.S_below (by (with_reducible repeat (first | apply Kd.S_alloc | apply Kd.S_drewN | apply Kd.S_drew)); exact HO186.out) hb); replace HO189 := Aside0.mk (Kd.R_below (rx HO189) hb); replace HO193 := Aside0.mk (Kd.R_below (rx HO193) hb); replace HO197 := Aside0.mk (Kd.R_below (rx HO197) hb); replace HO201 := Aside0.mk (Kd.R_below (rx HO201) hb); replace HO205 := Aside0.mk (Kd.R_below (rx HO205) hb); replace HO208 := Aside0.mk (Kd.R_below (rx HO208) hb); replace HR169 := Aside0.mk (Kd.C_below (by repeat (first | (with_reducible exact HR169.out) | (with_reducible refine Kd.C_alloc ?_ _) | (with_reducible refine Kd.C_drewN ?_ _) | (with_reducible refine Kd.C_drew ?_) | exact HR169.out)) hb); replace HB := bh HB hb; (try clear hb); (try clear hb2); (try clear hk); (try clear hi)))
        go_ret
        exact ⟨by first | rfl | (simp [errW_none, errW_some] <;> rfl) | (simp [*, errW_none, errW_some] <;> rfl), by repeat (first | (with_reducible first | exact HB.out | apply below_alloc | apply pw_below_drewN | apply below_drew1) | exact HB.out)⟩
       ·rw [if_neg c17] at H
        have c17b0 : (t184 == 2) = false := beq_eq_false_iff_ne.mpr c17
        have c17b1 : (t184 != 2) = true := bne_iff_ne.mpr c17
        exact absurd ((Option.some.inj H).trans HR_.out) (by decide)
      ·rw [if_neg c16] at H
       have c16b0 : (t173 == 2) = false := beq_eq_false_iff_ne.mpr c16
       have c16b1 : (t173 != 2) = true := bne_iff_ne.mpr c16
       exact absurd ((Option.some.inj H).trans HR_.out) (by decide)
     ·replace c15 := Bool.eq_false_iff.mpr c15
      subst c15
      have H1 : (some false) = some r := by rw [if_neg (show ¬ (false = true) by decide)] at H; exact H
      clear H
      have H := H1
      clear H1
      exact absurd ((Option.some.inj H).trans HR_.out) (by decide)
    ·replace c13 := Bool.eq_false_iff.mpr c13
     subst c13
     have H1 : (some false) = some r := by rw [if_neg (show ¬ (false = true) by decide)] at H; exact H
     clear H
     have H := H1
     clear H1
     exact absurd ((Option.some.inj H).trans HR_.out) (by decide)
   ·replace c11 := Bool.eq_false_iff.mpr c11
    subst c11
    have H1 : (some false) = some r := by rw [if_neg (show ¬ (false = true) by decide)] at H; exact H
    clear H
    have H := H1
    clear H1
    exact absurd ((Option.some.inj H).trans HR_.out) (by decide)
  ·replace c9 := Bool.eq_false_iff.mpr c9
   subst c9
   have H1 : (some false) = some r := by rw [if_neg (show ¬ (false = true) by decide)] at H; exact H
   clear H
   have H := H1
   clear H1
   exact absurd ((Option.some.inj H).trans HR_.out) (by decide)
 ·rw [if_neg c3] at H
  exact absurd H (by simp)

theorem stickfullaw15_head.true_ (k : Nat) (r : Bool) (h : stickfullaw15_head.f k = some r) : r = true := by
 have h1 : stickfullaw15_head.f 100 = some true := by kernel_rfl
 have a := at_rounds stickfullaw15_head.mono (Nat.le_max_left k 100) h
 have b := at_rounds stickfullaw15_head.mono (Nat.le_max_right k 100) h1
 rw [a] at b
 exact Option.some.inj b
theorem stickfullaw15_head.calls (k : Nat)  (r : Bool) (w : World) (h : stickfullaw15_head.f k  = some r) :
  Calls Try.prog 8 #[] w fun e w' => e = .returned (.bool r) ∧ Below w.heap.size w w' := stickfullaw15_head.calls_t k r w h (stickfullaw15_head.true_ k r h)

/-! ### stickfulref15_Alike: function 13 -/
def stickfulref15_Alike.l0 : Nat → List (S46) → List (S46) → Int → Option (Bool)
 | 0, _, _, _ => none
 | k + 1, x0, x1, x5 => if x5 < (x0.length : Int) then (if 0 ≤ x5 then (if x5 < (x1.length : Int) then (if ((rd_T46 x0 x5).f0) = ((rd_T46 x1 x5).f0) then (if ((rd_T46 x0 x5).f1) = ((rd_T46 x1 x5).f1) then (if ((rd_T46 x0 x5).f2) = ((rd_T46 x1 x5).f2) then (if (((rd_T46 x0 x5).f4) != ((rd_T46 x1 x5).f4)) = true then (some false) else (if (((rd_T46 x0 x5).f5) != ((rd_T46 x1 x5).f5)) = true then (some false) else (stickfulref15_Alike.l0 k x0 x1 (wrap64 (x5 + 1))))) else (some false)) else (some false)) else (some false)) else (none)) else (none)) else (some true)
def stickfulref15_Alike.f (k : Nat) (l0 : List (S46)) (l1 : List (S46)) : Option (Bool) := if (l0.length : Int) = (l1.length : Int) then (stickfulref15_Alike.l0 k l0 l1 0) else (some false)
theorem stickfulref15_Alike.mono_l : ∀ k, (∀ y0 y1 y2, LeO (stickfulref15_Alike.l0 k y0 y1 y2) (stickfulref15_Alike.l0 (k + 1) y0 y1 y2))
 | 0 => fun _ _ _ r h => by simp [stickfulref15_Alike.l0] at h
 | k + 1 => by
  have ih0 := stickfulref15_Alike.mono_l k
  ·intro y0 y1 y2
   unfold stickfulref15_Alike.l0
   repeat' first
   | (with_reducible exact ih0 _ _ _)
   | (with_reducible exact LeO.refl _)
   | (with_reducible exact LeO.none _)
   | (with_reducible refine LeO.ite ?_ ?_)
   | (with_reducible refine LeO.bind ?_ (fun _ => ?_))
   | exact ih0 _ _ _
   | exact LeO.none _
   | refine LeO.ite ?_ ?_
   | refine LeO.bind ?_ (fun _ => ?_)
theorem stickfulref15_Alike.mono : ∀ a0 a1 k, LeO (stickfulref15_Alike.f k a0 a1) (stickfulref15_Alike.f (k + 1) a0 a1) := by
 intro a0 a1 k
 have ih0 := stickfulref15_Alike.mono_l k
 unfold stickfulref15_Alike.f
 repeat' first
   | (with_reducible exact ih0 _ _ _)
   | (with_reducible exact LeO.refl _)
   | (with_reducible exact LeO.none _)
   | (with_reducible refine LeO.ite ?_ ?_)
   | (with_reducible refine LeO.bind ?_ (fun _ => ?_))
   | exact ih0 _ _ _
   | exact LeO.none _
   | refine LeO.ite ?_ ?_
   | refine LeO.bind ?_ (fun _ => ?_)
set_option maxHeartbeats 8000000 in
set_option maxRecDepth 100000 in
theorem stickfulref15_Alike.calls (k : Nat) (A0 : Option Addr) (c0 : Nat) (l0 : List (S46)) (A1 : Option Addr) (c1 : Nat) (l1 : List (S46)) (r : Bool) (w : World) (hr0 : Kd.C k46 w A0 l0.length l0) (hc0 : l0.length ≤ c0) (hr1 : Kd.C k46 w A1 l1.length l1) (hc1 : l1.length ≤ c1) (h : stickfulref15_Alike.f k l0 l1 = some r) :
  Calls Try.prog 13 #[.slice A0 l0.length c0, .slice A1 l1.length c1] w fun e w' => e = .returned (.bool r) ∧ Drawn0 w w' := by
 have HR0 := Aside0.mk hr0
 have HC0 := Aside0.mk hc0
 clear hr0 hc0
 have HR1 := Aside0.mk hr1
 have HC1 := Aside0.mk hc1
 clear hr1 hc1
 have H : (if (l0.length : Int) = (l1.length : Int) then (stickfulref15_Alike.l0 k l0 l1 0) else (some false)) = some r := h
 clear h
 by_cases c3 : (l0.length : Int) = (l1.length : Int)
 ·rw [if_pos c3] at H
  have c3b0 : ((l0.length : Int) == (l1.length : Int)) = true := beq_iff_eq.mpr c3
  have c3b1 : ((l0.length : Int) != (l1.length : Int)) = false := bne_eq_false_iff_eq.mpr c3
  have c3b2 : (l0.length == l1.length) = true := by first | simpa using c3 | (simp at c3 ⊢; omega)
  clear c3
  have H' := Aside0.mk H
  clear H
  go_enter Try.func13, Try.ntmps13
  go_wp2
  repeat (go_quiet (fail); try go_wp2)
  go_loopg [5] k (fun kq v5 w' => ∃ (x5_1 : Int), v5 = .int .i64 x5_1 ∧ Aside0 (stickfulref15_Alike.l0 kq l0 l1 x5_1 = some r) ∧ Aside0 (kq ≤ k) ∧ Drawn0 w w')
  case atStart => exact ⟨(0), (by first | rfl | (simp; done) | (simp [*]; done)), H', ⟨Nat.le_refl _⟩, by repeat (first | exact Drawn0.refl _ | apply Drawn0.step)⟩
  case round =>
   clear H'
   try clear c1
   try clear p2
   try clear c3
   try clear c3b0
   try clear c3b1
   try clear c3b2
   obtain ⟨x5_1, rfl, HA, HK1, ⟨m1, rfl⟩⟩ := hrel
   cases gk with
   | zero => exact absurd HA.out (by simp [stickfulref15_Alike.l0])
   | succ k1 =>
    have H := HA.out
    clear HA
    simp only [stickfulref15_Alike.l0] at H
    by_cases c4 : x5_1 < (l0.length : Int)
    ·rw [if_pos c4] at H
     have c4b0 : decide (x5_1 < (l0.length : Int)) = true := decide_eq_true c4
     clear c4
     by_cases c5 : 0 ≤ x5_1
     ·rw [if_pos c5] at H
      have c5b0 : decide (0 ≤ x5_1) = true := decide_eq_true c5
      clear c5
      by_cases c6 : x5_1 < (l1.length : Int)
      ·rw [if_pos c6] at H
       have c6b0 : decide (x5_1 < (l1.length : Int)) = true := decide_eq_true c6
       clear c6
       by_cases c7 : ((rd_T46 l0 x5_1).f0) = ((rd_T46 l1 x5_1).f0)
       ·rw [if_pos c7] at H
        have c7b0 : (((rd_T46 l0 x5_1).f0) == ((rd_T46 l1 x5_1).f0)) = true := beq_iff_eq.mpr c7
        have c7b1 : (((rd_T46 l0 x5_1).f0) != ((rd_T46 l1 x5_1).f0)) = false := bne_eq_false_iff_eq.mpr c7
        clear c7
        by_cases c8 : ((rd_T46 l0 x5_1).f1) = ((rd_T46 l1 x5_1).f1)
        ·rw [if_pos c8] at H
         have c8b0 : (((rd_T46 l0 x5_1).f1) == ((rd_T46 l1 x5_1).f1)) = true := beq_iff_eq.mpr c8
         have c8b1 : (((rd_T46 l0 x5_1).f1) != ((rd_T46 l1 x5_1).f1)) = false := bne_eq_false_iff_eq.mpr c8
         clear c8
         by_cases c9 : ((rd_T46 l0 x5_1).f2) = ((rd_T46 l1 x5_1).f2)
         ·rw [if_pos c9] at H
          have c9b0 : (((rd_T46 l0 x5_1).f2) == ((rd_T46 l1 x5_1).f2)) = true := beq_iff_eq.mpr c9
          have c9b1 : (((rd_T46 l0 x5_1).f2) != ((rd_T46 l1 x5_1).f2)) = false := bne_eq_false_iff_eq.mpr c9
          clear c9
          by_cases c10 : (((rd_T46 l0 x5_1).f4) != ((rd_T46 l1 x5_1).f4)) = true
          ·rw [if_pos c10] at H
           have c10b0 : (((rd_T46 l0 x5_1).f4) != ((rd_T46 l1 x5_1).f4)) = true := c10
           (try (have c10b1 : decide (((rd_T46 l0 x5_1).f4) = ((rd_T46 l1 x5_1).f4)) = false := by simpa using c10))
           (try (have c10b2 : (((rd_T46 l0 x5_1).f4) == ((rd_T46 l1 x5_1).f4)) = false := by simpa using c10))
           (try (have c10b3 : ¬ (((rd_T46 l0 x5_1).f4) = ((rd_T46 l1 x5_1).f4)) := by simpa using c10))
           clear c10
           obtain rfl := Option.some.inj H
           have p210 : 0 ≤ (x5_1 : Int) := of_decide_eq_true (by first | (with_reducible assumption) | assumption)
           have q210 : x5_1 < (l0.length : Int) := of_decide_eq_true (by first | (with_reducible assumption) | assumption)
           obtain ⟨ad210, e210, hx210_0, hx210_1, hx210_2, hx210_3, hx210_4, hx210_5⟩ := at_T46 HR0.out x5_1 p210 q210
           cases e210
           replace p210 := eq_true p210
           replace q210 := eq_true q210
           have p211 : 0 ≤ (x5_1 : Int) := of_decide_eq_true (by first | (with_reducible assumption) | assumption)
           have q211 : x5_1 < (l1.length : Int) := of_decide_eq_true (by first | (with_reducible assumption) | assumption)
           obtain ⟨ad211, e211, hx211_0, hx211_1, hx211_2, hx211_3, hx211_4, hx211_5⟩ := at_T46 HR1.out x5_1 p211 q211
           cases e211
           replace p211 := eq_true p211
           replace q211 := eq_true q211
           have p212 : 0 ≤ (x5_1 : Int) := of_decide_eq_true (by first | (with_reducible assumption) | assumption)
           have q212 : x5_1 < (l0.length : Int) := of_decide_eq_true (by first | (with_reducible assumption) | assumption)
           obtain ⟨ad212, e212, hx212_0, hx212_1, hx212_2, hx212_3, hx212_4, hx212_5⟩ := at_T46 HR0.out x5_1 p212 q212
           obtain rfl : ad210 = ad212 := (by injection e212)
           replace p212 := eq_true p212
           replace q212 := eq_true q212
           have p213 : 0 ≤ (x5_1 : Int) := of_decide_eq_true (by first | (with_reducible assumption) | assumption)
           have q213 : x5_1 < (l1.length : Int) := of_decide_eq_true (by first | (with_reducible assumption) | assumption)
           obtain ⟨ad213, e213, hx213_0, hx213_1, hx213_2, hx213_3, hx213_4, hx213_5⟩ := at_T46 HR1.out x5_1 p213 q213
           obtain rfl : ad211 = ad213 := (by injection e213)
           replace p213 := eq_true p213
           replace q213 := eq_true q213
           have p214 : 0 ≤ (x5_1 : Int) := of_decide_eq_true (by first | (with_reducible assumption) | assumption)
           have q214 : x5_1 < (l0.length : Int) := of_decide_eq_true (by first | (with_reducible assumption) | assumption)
           obtain ⟨ad214, e214, hx214_0, hx214_1, hx214_2, hx214_3, hx214_4, hx214_5⟩ := at_T46 HR0.out x5_1 p214 q214
           obtain rfl : ad210 = ad214 := (by injection e214)
           replace p214 := eq_true p214
           replace q214 := eq_true q214
           have p215 : 0 ≤ (x5_1 : Int) := of_decide_eq_true (by first | (with_reducible assumption) | assumption)
           have q215 : x5_1 < (l1.length : Int) := of_decide_eq_true (by first | (with_reducible assumption) | assumption)
           obtain ⟨ad215, e215, hx215_0, hx215_1, hx215_2, hx215_3, hx215_4, hx215_5⟩ := at_T46 HR1.out x5_1 p215 q215
           obtain rfl : ad211 = ad215 := (by injection e215)
           replace p215 := eq_true p215
           replace q215 := eq_true q215
           have p216 : 0 ≤ (x5_1 : Int) := of_decide_eq_true (by first | (with_reducible assumption) | assumption)
           have q216 : x5_1 < (l0.length : Int) := of_decide_eq_true (by first | (with_reducible assumption) | assumption)
           obtain ⟨ad216, e216, hx216_0, hx216_1, hx216_2, hx216_3, hx216_4, hx216_5⟩ := at_T46 HR0.out x5_1 p216 q216
           obtain rfl : ad210 = ad216 := (by injection e216)
           replace p216 := eq_true p216
           replace q216 := eq_true q216
           have p217 : 0 ≤ (x5_1 : Int) := of_decide_eq_true (by first | (with_reducible assumption) | assumption)
           have q217 : x5_1 < (l1.length : Int) := of_decide_eq_true (by first | (with_reducible assumption) | assumption)
           obtain ⟨ad217, e217, hx217_0, hx217_1, hx217_2, hx217_3, hx217_4, hx217_5⟩ := at_T46 HR1.out x5_1 p217 q217
           obtain rfl : ad211 = ad217 := (by injection e217)
           replace p217 := eq_true p217
           replace q217 := eq_true q217
           go_wp2
           repeat (go_quiet (fail); try go_wp2)
           go_ret
           exact ⟨by first | rfl | (simp; done) | (simp [*]; done), by repeat (first | exact Drawn0.refl _ | apply Drawn0.step)⟩
          ·rw [if_neg c10] at H
           have c10b0 : (((rd_T46 l0 x5_1).f4) != ((rd_T46 l1 x5_1).f4)) = false := by simpa using c10
           (try (have c10b1 : decide (((rd_T46 l0 x5_1).f4) = ((rd_T46 l1 x5_1).f4)) = true := by simpa using c10))
           (try (have c10b2 : (((rd_T46 l0 x5_1).f4) == ((rd_T46 l1 x5_1).f4)) = true := by simpa using c10))
           clear c10
           by_cases c11 : (((rd_T46 l0 x5_1).f5) != ((rd_T46 l1 x5_1).f5)) = true
           ·rw [if_pos c11] at H
            have c11b0 : (((rd_T46 l0 x5_1).f5) != ((rd_T46 l1 x5_1).f5)) = true := c11
            (try (have c11b1 : decide (((rd_T46 l0 x5_1).f5) = ((rd_T46 l1 x5_1).f5)) = false := by simpa using c11))
            (try (have c11b2 : (((rd_T46 l0 x5_1).f5) == ((rd_T46 l1 x5_1).f5)) = false := by simpa using c11))
            (try (have c11b3 : ¬ (((rd_T46 l0 x5_1).f5) = ((rd_T46 l1 x5_1).f5)) := by simpa using c11))
            clear c11
            obtain rfl := Option.some.inj H
            have p210 : 0 ≤ (x5_1 : Int) := of_decide_eq_true (by first | (with_reducible assumption) | assumption)
            have q210 : x5_1 < (l0.length : Int) := of_decide_eq_true (by first | (with_reducible assumption) | assumption)
            obtain ⟨ad210, e210, hx210_0, hx210_1, hx210_2, hx210_3, hx210_4, hx210_5⟩ := at_T46 HR0.out x5_1 p210 q210
            cases e210
            replace p210 := eq_true p210
            replace q210 := eq_true q210
            have p211 : 0 ≤ (x5_1 : Int) := of_decide_eq_true (by first | (with_reducible assumption) | assumption)
            have q211 : x5_1 < (l1.length : Int) := of_decide_eq_true (by first | (with_reducible assumption) | assumption)
            obtain ⟨ad211, e211, hx211_0, hx211_1, hx211_2, hx211_3, hx211_4, hx211_5⟩ := at_T46 HR1.out x5_1 p211 q211
            cases e211
            replace p211 := eq_true p211
            replace q211 := eq_true q211
            have p212 : 0 ≤ (x5_1 : Int) := of_decide_eq_true (by first | (with_reducible assumption) | assumption)
            have q212 : x5_1 < (l0.length : Int) := of_decide_eq_true (by first | (with_reducible assumption) | assumption)
            obtain ⟨ad212, e212, hx212_0, hx212_1, hx212_2, hx212_3, hx212_4, hx212_5⟩ := at_T46 HR0.out x5_1 p212 q212
            obtain rfl : ad210 = ad212 := (by injection e212)
            replace p212 := eq_true p212
            replace q212 := eq_true q212
            have p213 : 0 ≤ (x5_1 : Int) := of_decide_eq_true (by first | (with_reducible assumption) | assumption)
            have q213 : x5_1 < (l1.length : Int) := of_decide_eq_true (by first | (with_reducible assumption) | assumption)
            obtain ⟨ad213, e213, hx213_0, hx213_1, hx213_2, hx213_3, hx213_4, hx213_5⟩ := at_T46 HR1.out x5_1 p213 q213
            obtain rfl : ad211 = ad213 := (by injection e213)
            replace p213 := eq_true p213
            replace q213 := eq_true q213
            have p214 : 0 ≤ (x5_1 : Int) := of_decide_eq_true (by first | (with_reducible assumption) | assumption)
            have q214 : x5_1 < (l0.length : Int) := of_decide_eq_true (by first | (with_reducible assumption) | assumption)
            obtain ⟨ad214, e214, hx214_0, hx214_1, hx214_2, hx214_3, hx214_4, hx214_5⟩ := at_T46 HR0.out x5_1 p214 q214
            obtain rfl : ad210 = ad214 := (by injection e214)
            replace p214 := eq_true p214
            replace q214 := eq_true q214
            have p215 : 0 ≤ (x5_1 : Int) := of_decide_eq_true (by first | (with_reducible assumption) | assumption)
            have q215 : x5_1 < (l1.length : Int) := of_decide_eq_true (by first | (with_reducible assumption) | assumption)
            obtain ⟨ad215, e215, hx215_0, hx215_1, hx215_2, hx215_3, hx215_4, hx215_5⟩ := at_T46 HR1.out x5_1 p215 q215
            obtain rfl : ad211 = ad215 := (by injection e215)
            replace p215 := eq_true p215
            replace q215 := eq_true q215
            have p216 : 0 ≤ (x5_1 : Int) := of_decide_eq_true (by first | (with_reducible assumption) | assumption)
            have q216 : x5_1 < (l0.length : Int) := of_decide_eq_true (by first | (with_reducible assumption) | assumption)
            obtain ⟨ad216, e216, hx216_0, hx216_1, hx216_2, hx216_3, hx216_4, hx216_5⟩ := at_T46 HR0.out x5_1 p216 q216
            obtain rfl : ad210 = ad216 := (by injection e216)
            replace p216 := eq_true p216
            replace q216 := eq_true q216
            have p217 : 0 ≤ (x5_1 : Int) := of_decide_eq_true (by first | (with_reducible assumption) | assumption)
            have q217 : x5_1 < (l1.length : Int) := of_decide_eq_true (by first | (with_reducible assumption) | assumption)
            obtain ⟨ad217, e217, hx217_0, hx217_1, hx217_2, hx217_3, hx217_4, hx217_5⟩ := at_T46 HR1.out x5_1 p217 q217
            obtain rfl : ad211 = ad217 := (by injection e217)
            replace p217 := eq_true p217
            replace q217 := eq_true q217
            have p218 : 0 ≤ (x5_1 : Int) := of_decide_eq_true (by first | (with_reducible assumption) | assumption)
            have q218 : x5_1 < (l0.length : Int) := of_decide_eq_true (by first | (with_reducible assumption) | assumption)
            obtain ⟨ad218, e218, hx218_0, hx218_1, hx218_2, hx218_3, hx218_4, hx218_5⟩ := at_T46 HR0.out x5_1 p218 q218
            obtain rfl : ad210 = ad218 := (by injection e218)
            replace p218 := eq_true p218
            replace q218 := eq_true q218
            have p219 : 0 ≤ (x5_1 : Int) := of_decide_eq_true (by first | (with_reducible assumption) | assumption)
            have q219 : x5_1 < (l1.length : Int) := of_decide_eq_true (by first | (with_reducible assumption) | assumption)
            obtain ⟨ad219, e219, hx219_0, hx219_1, hx219_2, hx219_3, hx219_4, hx219_5⟩ := at_T46 HR1.out x5_1 p219 q219
            obtain rfl : ad211 = ad219 := (by injection e219)
            replace p219 := eq_true p219
            replace q219 := eq_true q219
            go_wp2
            repeat (go_quiet (fail); try go_wp2)
            go_ret
            exact ⟨by first | rfl | (simp; done) | (simp [*]; done), by repeat (first | exact Drawn0.refl _ | apply Drawn0.step)⟩
           ·rw [if_neg c11] at H
            have c11b0 : (((rd_T46 l0 x5_1).f5) != ((rd_T46 l1 x5_1).f5)) = false := by simpa using c11
            (try (have c11b1 : decide (((rd_T46 l0 x5_1).f5) = ((rd_T46 l1 x5_1).f5)) = true := by simpa using c11))
            (try (have c11b2 : (((rd_T46 l0 x5_1).f5) == ((rd_T46 l1 x5_1).f5)) = true := by simpa using c11))
            clear c11
            have H' := Aside0.mk H
            clear H
            have p210 : 0 ≤ (x5_1 : Int) := of_decide_eq_true (by first | (with_reducible assumption) | assumption)
            have q210 : x5_1 < (l0.length : Int) := of_decide_eq_true (by first | (with_reducible assumption) | assumption)
            obtain ⟨ad210, e210, hx210_0, hx210_1, hx210_2, hx210_3, hx210_4, hx210_5⟩ := at_T46 HR0.out x5_1 p210 q210
            cases e210
            replace p210 := eq_true p210
            replace q210 := eq_true q210
            have p211 : 0 ≤ (x5_1 : Int) := of_decide_eq_true (by first | (with_reducible assumption) | assumption)
            have q211 : x5_1 < (l1.length : Int) := of_decide_eq_true (by first | (with_reducible assumption) | assumption)
            obtain ⟨ad211, e211, hx211_0, hx211_1, hx211_2, hx211_3, hx211_4, hx211_5⟩ := at_T46 HR1.out x5_1 p211 q211
            cases e211
            replace p211 := eq_true p211
            replace q211 := eq_true q211
            have p212 : 0 ≤ (x5_1 : Int) := of_decide_eq_true (by first | (with_reducible assumption) | assumption)
            have q212 : x5_1 < (l0.length : Int) := of_decide_eq_true (by first | (with_reducible assumption) | assumption)
            obtain ⟨ad212, e212, hx212_0, hx212_1, hx212_2, hx212_3, hx212_4, hx212_5⟩ := at_T46 HR0.out x5_1 p212 q212
            obtain rfl : ad210 = ad212 := (by injection e212)
            replace p212 := eq_true p212
            replace q212 := eq_true q212
            have p213 : 0 ≤ (x5_1 : Int) := of_decide_eq_true (by first | (with_reducible assumption) | assumption)
            have q213 : x5_1 < (l1.length : Int) := of_decide_eq_true (by first | (with_reducible assumption) | assumption)
            obtain ⟨ad213, e213, hx213_0, hx213_1, hx213_2, hx213_3, hx213_4, hx213_5⟩ := at_T46 HR1.out x5_1 p213 q213
            obtain rfl : ad211 = ad213 := (by injection e213)
            replace p213 := eq_true p213
            replace q213 := eq_true q213
            have p214 : 0 ≤ (x5_1 : Int) := of_decide_eq_true (by first | (with_reducible assumption) | assumption)
            have q214 : x5_1 < (l0.length : Int) := of_decide_eq_true (by first | (with_reducible assumption) | assumption)
            obtain ⟨ad214, e214, hx214_0, hx214_1, hx214_2, hx214_3, hx214_4, hx214_5⟩ := at_T46 HR0.out x5_1 p214 q214
            obtain rfl : ad210 = ad214 := (by injection e214)
            replace p214 := eq_true p214
            replace q214 := eq_true q214
            have p215 : 0 ≤ (x5_1 : Int) := of_decide_eq_true (by first | (with_reducible assumption) | assumption)
            have q215 : x5_1 < (l1.length : Int) := of_decide_eq_true (by first | (with_reducible assumption) | assumption)
            obtain ⟨ad215, e215, hx215_0, hx215_1, hx215_2, hx215_3, hx215_4, hx215_5⟩ := at_T46 HR1.out x5_1 p215 q215
            obtain rfl : ad211 = ad215 := (by injection e215)
            replace p215 := eq_true p215
            replace q215 := eq_true q215
            have p216 : 0 ≤ (x5_1 : Int) := of_decide_eq_true (by first | (with_reducible assumption) | assumption)
            have q216 : x5_1 < (l0.length : Int) := of_decide_eq_true (by first | (with_reducible assumption) | assumption)
            obtain ⟨ad216, e216, hx216_0, hx216_1, hx216_2, hx216_3, hx216_4, hx216_5⟩ := at_T46 HR0.out x5_1 p216 q216
            obtain rfl : ad210 = ad216 := (by injection e216)
            replace p216 := eq_true p216
            replace q216 := eq_true q216
            have p217 : 0 ≤ (x5_1 : Int) := of_decide_eq_true (by first | (with_reducible assumption) | assumption)
            have q217 : x5_1 < (l1.length : Int) := of_decide_eq_true (by first | (with_reducible assumption) | assumption)
            obtain ⟨ad217, e217, hx217_0, hx217_1, hx217_2, hx217_3, hx217_4, hx217_5⟩ := at_T46 HR1.out x5_1 p217 q217
            obtain rfl : ad211 = ad217 := (by injection e217)
            replace p217 := eq_true p217
            replace q217 := eq_true q217
            have p218 : 0 ≤ (x5_1 : Int) := of_decide_eq_true (by first | (with_reducible assumption) | assumption)
            have q218 : x5_1 < (l0.length : Int) := of_decide_eq_true (by first | (with_reducible assumption) | assumption)
            obtain ⟨ad218, e218, hx218_0, hx218_1, hx218_2, hx218_3, hx218_4, hx218_5⟩ := at_T46 HR0.out x5_1 p218 q218
            obtain rfl : ad210 = ad218 := (by injection e218)
            replace p218 := eq_true p218
            replace q218 := eq_true q218
            have p219 : 0 ≤ (x5_1 : Int) := of_decide_eq_true (by first | (with_reducible assumption) | assumption)
            have q219 : x5_1 < (l1.length : Int) := of_decide_eq_true (by first | (with_reducible assumption) | assumption)
            obtain ⟨ad219, e219, hx219_0, hx219_1, hx219_2, hx219_3, hx219_4, hx219_5⟩ := at_T46 HR1.out x5_1 p219 q219
            obtain rfl : ad211 = ad219 := (by injection e219)
            replace p219 := eq_true p219
            replace q219 := eq_true q219
            go_wp2
            repeat (go_quiet (fail); try go_wp2)
            go_roundg k1
            case measure => have := HK1.out; omega
            case rel => exact ⟨(wrap64 (x5_1 + 1)), (by first | rfl | (simp; done) | (simp [*]; done)), H', ⟨by have := HK1.out; omega⟩, by repeat (first | exact Drawn0.refl _ | apply Drawn0.step)⟩
         ·rw [if_neg c9] at H
          have c9b0 : (((rd_T46 l0 x5_1).f2) == ((rd_T46 l1 x5_1).f2)) = false := beq_eq_false_iff_ne.mpr c9
          have c9b1 : (((rd_T46 l0 x5_1).f2) != ((rd_T46 l1 x5_1).f2)) = true := bne_iff_ne.mpr c9
          obtain rfl := Option.some.inj H
          have p210 : 0 ≤ (x5_1 : Int) := of_decide_eq_true (by first | (with_reducible assumption) | assumption)
          have q210 : x5_1 < (l0.length : Int) := of_decide_eq_true (by first | (with_reducible assumption) | assumption)
          obtain ⟨ad210, e210, hx210_0, hx210_1, hx210_2, hx210_3, hx210_4, hx210_5⟩ := at_T46 HR0.out x5_1 p210 q210
          cases e210
          replace p210 := eq_true p210
          replace q210 := eq_true q210
          have p211 : 0 ≤ (x5_1 : Int) := of_decide_eq_true (by first | (with_reducible assumption) | assumption)
          have q211 : x5_1 < (l1.length : Int) := of_decide_eq_true (by first | (with_reducible assumption) | assumption)
          obtain ⟨ad211, e211, hx211_0, hx211_1, hx211_2, hx211_3, hx211_4, hx211_5⟩ := at_T46 HR1.out x5_1 p211 q211
          cases e211
          replace p211 := eq_true p211
          replace q211 := eq_true q211
          have p212 : 0 ≤ (x5_1 : Int) := of_decide_eq_true (by first | (with_reducible assumption) | assumption)
          have q212 : x5_1 < (l0.length : Int) := of_decide_eq_true (by first | (with_reducible assumption) | assumption)
          obtain ⟨ad212, e212, hx212_0, hx212_1, hx212_2, hx212_3, hx212_4, hx212_5⟩ := at_T46 HR0.out x5_1 p212 q212
          obtain rfl : ad210 = ad212 := (by injection e212)
          replace p212 := eq_true p212
          replace q212 := eq_true q212
          have p213 : 0 ≤ (x5_1 : Int) := of_decide_eq_true (by first | (with_reducible assumption) | assumption)
          have q213 : x5_1 < (l1.length : Int) := of_decide_eq_true (by first | (with_reducible assumption) | assumption)
          obtain ⟨ad213, e213, hx213_0, hx213_1, hx213_2, hx213_3, hx213_4, hx213_5⟩ := at_T46 HR1.out x5_1 p213 q213
          obtain rfl : ad211 = ad213 := (by injection e213)
          replace p213 := eq_true p213
          replace q213 := eq_true q213
          have p214 : 0 ≤ (x5_1 : Int) := of_decide_eq_true (by first | (with_reducible assumption) | assumption)
          have q214 : x5_1 < (l0.length : Int) := of_decide_eq_true (by first | (with_reducible assumption) | assumption)
          obtain ⟨ad214, e214, hx214_0, hx214_1, hx214_2, hx214_3, hx214_4, hx214_5⟩ := at_T46 HR0.out x5_1 p214 q214
          obtain rfl : ad210 = ad214 := (by injection e214)
          replace p214 := eq_true p214
          replace q214 := eq_true q214
          have p215 : 0 ≤ (x5_1 : Int) := of_decide_eq_true (by first | (with_reducible assumption) | assumption)
          have q215 : x5_1 < (l1.length : Int) := of_decide_eq_true (by first | (with_reducible assumption) | assumption)
          obtain ⟨ad215, e215, hx215_0, hx215_1, hx215_2, hx215_3, hx215_4, hx215_5⟩ := at_T46 HR1.out x5_1 p215 q215
          obtain rfl : ad211 = ad215 := (by injection e215)
          replace p215 := eq_true p215
          replace q215 := eq_true q215
          go_wp2
          repeat (go_quiet (fail); try go_wp2)
          go_ret
          exact ⟨by first | rfl | (simp; done) | (simp [*]; done), by repeat (first | exact Drawn0.refl _ | apply Drawn0.step)⟩
        ·rw [if_neg c8] at H
         have c8b0 : (((rd_T46 l0 x5_1).f1) == ((rd_T46 l1 x5_1).f1)) = false := beq_eq_false_iff_ne.mpr c8
         have c8b1 : (((rd_T46 l0 x5_1).f1) != ((rd_T46 l1 x5_1).f1)) = true := bne_iff_ne.mpr c8
         obtain rfl := Option.some.inj H
         have p210 : 0 ≤ (x5_1 : Int) := of_decide_eq_true (by first | (with_reducible assumption) | assumption)
         have q210 : x5_1 < (l0.length : Int) := of_decide_eq_true (by first | (with_reducible assumption) | assumption)
         obtain ⟨ad210, e210, hx210_0, hx210_1, hx210_2, hx210_3, hx210_4, hx210_5⟩ := at_T46 HR0.out x5_1 p210 q210
         cases e210
         replace p210 := eq_true p210
         replace q210 := eq_true q210
         have p211 : 0 ≤ (x5_1 : Int) := of_decide_eq_true (by first | (with_reducible assumption) | assumption)
         have q211 : x5_1 < (l1.length : Int) := of_decide_eq_true (by first | (with_reducible assumption) | assumption)
         obtain ⟨ad211, e211, hx211_0, hx211_1, hx211_2, hx211_3, hx211_4, hx211_5⟩ := at_T46 HR1.out x5_1 p211 q211
         cases e211
         replace p211 := eq_true p211
         replace q211 := eq_true q211
         have p212 : 0 ≤ (x5_1 : Int) := of_decide_eq_true (by first | (with_reducible assumption) | assumption)
         have q212 : x5_1 < (l0.length : Int) := of_decide_eq_true (by first | (with_reducible assumption) | assumption)
         obtain ⟨ad212, e212, hx212_0, hx212_1, hx212_2, hx212_3, hx212_4, hx212_5⟩ := at_T46 HR0.out x5_1 p212 q212
         obtain rfl : ad210 = ad212 := (by injection e212)
         replace p212 := eq_true p212
         replace q212 := eq_true q212
         have p213 : 0 ≤ (x5_1 : Int) := of_decide_eq_true (by first | (with_reducible assumption) | assumption)
         have q213 : x5_1 < (l1.length : Int) := of_decide_eq_true (by first | (with_reducible assumption) | assumption)
         obtain ⟨ad213, e213, hx213_0, hx213_1, hx213_2, hx213_3, hx213_4, hx213_5⟩ := at_T46 HR1.out x5_1 p213 q213
         obtain rfl : ad211 = ad213 := (by injection e213)
         replace p213 := eq_true p213
         replace q213 := eq_true q213
         go_wp2
         repeat (go_quiet (fail); try go_wp2)
         go_ret
         exact ⟨by first | rfl | (simp; done) | (simp [*]; done), by repeat (first | exact Drawn0.refl _ | apply Drawn0.step)⟩
       ·rw [if_neg c7] at H
        have c7b0 : (((rd_T46 l0 x5_1).f0) == ((rd_T46 l1 x5_1).f0)) = false := beq_eq_false_iff_ne.mpr c7
        have c7b1 : (((rd_T46 l0 x5_1).f0) != ((rd_T46 l1 x5_1).f0)) = true := bne_iff_ne.mpr c7
        obtain rfl := Option.some.inj H
        have p210 : 0 ≤ (x5_1 : Int) := of_decide_eq_true (by first | (with_reducible assumption) | assumption)
        have q210 : x5_1 < (l0.length : Int) := of_decide_eq_true (by first | (with_reducible assumption) | assumption)
        obtain ⟨ad210, e210, hx210_0, hx210_1, hx210_2, hx210_3, hx210_4, hx210_5⟩ := at_T46 HR0.out x5_1 p210 q210
        cases e210
        replace p210 := eq_true p210
        replace q210 := eq_true q210
        have p211 : 0 ≤ (x5_1 : Int) := of_decide_eq_true (by first | (with_reducible assumption) | assumption)
        have q211 : x5_1 < (l1.length : Int) := of_decide_eq_true (by first | (with_reducible assumption) | assumption)
        obtain ⟨ad211, e211, hx211_0, hx211_1, hx211_2, hx211_3, hx211_4, hx211_5⟩ := at_T46 HR1.out x5_1 p211 q211
        cases e211
        replace p211 := eq_true p211
        replace q211 := eq_true q211
        go_wp2
        repeat (go_quiet (fail); try go_wp2)
        go_ret
        exact ⟨by first | rfl | (simp; done) | (simp [*]; done), by repeat (first | exact Drawn0.refl _ | apply Drawn0.step)⟩
      ·rw [if_neg c6] at H
       exact absurd H (by simp)
     ·rw [if_neg c5] at H
      exact absurd H (by simp)
    ·rw [if_neg c4] at H
     have c4b0 : decide (x5_1 < (l0.length : Int)) = false := decide_eq_false c4
     clear c4
     obtain rfl := Option.some.inj H
     go_wp2
     repeat (go_quiet (fail); try go_wp2)
     go_ret
     exact ⟨by first | rfl | (simp; done) | (simp [*]; done), by repeat (first | exact Drawn0.refl _ | apply Drawn0.step)⟩
 ·rw [if_neg c3] at H
  have c3b0 : ((l0.length : Int) == (l1.length : Int)) = false := beq_eq_false_iff_ne.mpr c3
  have c3b1 : ((l0.length : Int) != (l1.length : Int)) = true := bne_iff_ne.mpr c3
  have c3b2 : (l0.length == l1.length) = false := by first | simpa using c3 | (simp at c3 ⊢; omega)
  obtain rfl := Option.some.inj H
  go_enter Try.func13, Try.ntmps13
  go_wp2
  repeat (go_quiet (fail); try go_wp2)
  go_ret
  exact ⟨by first | rfl | (simp; done) | (simp [*]; done), by repeat (first | exact Drawn0.refl _ | apply Drawn0.step)⟩

end Go.Proofs.Ytdmlnkgpjileaaa.HFirstC
