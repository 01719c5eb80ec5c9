-- Written by this claim's own program over the kit's print.
import Derived.Test.YtagdaniakfpnfaaHFillb
import Derived.Test.YtagdaniakfpnfaaHFillx0
import Derived.Test.YtagdaniakfpnfaaHFillx13
import Derived.Test.YtagdaniakfpnfaaHFillx14
namespace Go.Proofs.Ytagdaniakfpnfaa.HFill
open Go.RowKit Go.Proofs.YtagdaniakfpnfaaW.PrintWords Go.Proofs.YtagdaniakfpnfaaW.PrintLast Go.Proofs.YtagdaniakfpnfaaW.PrintMore Go.Proofs.Ytagdaniakfpnfaa.Hand
attribute [local go_sem] max2_int min2_int max_two min_two max_three min_three max_four min_four   -- for this text's walks alone
set_option linter.unusedVariables false
set_option linter.unusedSimpArgs false

/-! ### stickfullaw14_lines: function 18 -/
def stickfullaw14_lines.f (k : Nat) (l0 : List (S44)) (a1 : Int) (l2 : List (S35)) : Option (Bool) := (fill_Lines.f k l0 a1 0 a1 0).bind fun bt168 => (if bt168.2 = 0 then ((stickfulref14_Same.f k bt168.1 l2).bind fun t172 => (some t172)) else (some false))
theorem stickfullaw14_lines.mono : ∀ a0 a1 a2 k, LeO (stickfullaw14_lines.f k a0 a1 a2) (stickfullaw14_lines.f (k + 1) a0 a1 a2) := by
  intro a0 a1 a2 k
  unfold stickfullaw14_lines.f
  repeat' first
      | (with_reducible exact fill_Lines.mono _ _ _ _ _ _)
      | (with_reducible exact stickfulref14_Same.mono _ _ _)
      | (with_reducible exact LeO.refl _)
      | (with_reducible exact LeO.none _)
      | (with_reducible refine LeO.ite ?_ ?_)
      | (with_reducible refine LeO.bind ?_ (fun _ => ?_))
      | exact fill_Lines.mono _ _ _ _ _ _
      | exact stickfulref14_Same.mono _ _ _
      | exact LeO.none _
      | refine LeO.ite ?_ ?_
      | refine LeO.bind ?_ (fun _ => ?_)
set_option maxHeartbeats 8000000 in
set_option maxRecDepth 100000 in
theorem stickfullaw14_lines.calls (k : Nat) (A0 : Option Addr) (c0 : Nat) (l0 : List (S44)) (a1 : Int) (A2 : Option Addr) (c2 : Nat) (l2 : List (S35)) (r : Bool) (w : World) (hr0 : Kd.C k44 w A0 l0.length l0) (hc0 : l0.length ≤ c0) (hr2 : Kd.C k35 w A2 l2.length l2) (hc2 : l2.length ≤ c2) (h : stickfullaw14_lines.f k l0 a1 l2 = some r) :
    Calls Try.prog 18 #[.slice A0 l0.length c0, .int .i64 a1, .slice A2 l2.length c2] w fun e w' => e = .returned (.bool r) ∧ Below w.heap.size w w' := by
  have hu24 := Try.underlying24
  have HR0 := Aside0.mk hr0
  have HC0 := Aside0.mk hc0
  clear hr0 hc0
  have HR2 := Aside0.mk hr2
  have HC2 := Aside0.mk hc2
  clear hr2 hc2
  have HB := Aside0.mk (Below.refl w.heap.size w)
  have H : ((fill_Lines.f k l0 a1 0 a1 0).bind fun bt168 => (if bt168.2 = 0 then ((stickfulref14_Same.f k bt168.1 l2).bind fun t172 => (some t172)) else (some false))) = some r := h
  clear h
  replace H := Option.bind_eq_some_iff.mp H
  obtain ⟨⟨t168, t171⟩, A40, H⟩ := H
  replace H : (if t171 = 0 then ((stickfulref14_Same.f k t168 l2).bind fun t172 => (some t172)) else (some false)) = some r := H
  have A4 := Aside0.mk A40
  clear A40
  by_cases c5 : t171 = 0
  · rw [if_pos c5] at H
    have c5b0 : (t171 == 0) = true := beq_iff_eq.mpr c5
    have c5b1 : (t171 != 0) = false := bne_eq_false_iff_eq.mpr c5
    clear c5
    replace H := Option.bind_eq_some_iff.mp H
    obtain ⟨t172, A60, H⟩ := H
    replace H : (some t172) = some r := H
    have A6 := Aside0.mk A60
    clear A60
    obtain rfl := Option.some.inj H
    go_enter Try.func18, Try.ntmps18
    go_wp2_with (first | ((with_reducible refine gate_callee (f := 9) rfl ?_); refine goesB (some 15) rfl rfl Try.func9 #[.slice A0 l0.length c0, .agg #[.int .i64 a1, .int .i64 0], .agg #[.int .i64 a1, .int .i64 0]] rfl ?_; (with_reducible refine (fill_Lines.calls k _ _ l0 a1 0 a1 0 t168 t171 _ ?side1 ?side2 A4.out).mono ?_); (case side1 => repeat (first | exact HR0.out | (with_reducible refine Kd.C_alloc ?_ _) | (with_reducible refine Kd.C_drewN ?_ _) | (with_reducible refine Kd.C_drew ?_))); (case side2 => exact HC0.out); rintro e w7 ⟨v169, rfl, ho0, hb⟩; refine ⟨_, rfl, ?_⟩; have HO170 := Aside0.mk (Kd.R_lower ho0 (below_size (bw HB))); replace HB := bh HB hb; (try clear hb); (try clear hb2); (try clear hk); (try clear hi); (try clear ho0); obtain ⟨Ao8, co8, eo8⟩ := Kd.R_slice HO170.out; subst eo8) | (go_at_call 11; (with_reducible refine (stickfulref14_Same.calls k _ _ t168 _ _ l2 t172 _ ?side1 ?side2 ?side3 ?side4 A6.out).mono ?_); (case side1 => repeat (first | exact (Kd.R_reads' HO170.out).2.2 | (with_reducible refine Kd.C_alloc ?_ _) | (with_reducible refine Kd.C_drewN ?_ _) | (with_reducible refine Kd.C_drew ?_))); (case side2 => exact (Kd.R_reads' HO170.out).2.1); (case side3 => repeat (first | exact (Kd.C_below HR2.out HB.out) | (with_reducible refine Kd.C_alloc ?_ _) | (with_reducible refine Kd.C_drewN ?_ _) | (with_reducible refine Kd.C_drew ?_))); (case side4 => exact HC2.out); rintro e w' ⟨rfl, ⟨nd, rfl⟩⟩))
    go_ret
    exact ⟨by first | rfl | (simp [errW_none, errW_some] <;> rfl) | (simp [*, errW_none, errW_some] <;> rfl), by repeat (first | (with_reducible first | exact HB.out | apply below_alloc | apply pw_below_drewN | apply below_drew1) | exact HB.out)⟩
  · rw [if_neg c5] at H
    have c5b0 : (t171 == 0) = false := beq_eq_false_iff_ne.mpr c5
    have c5b1 : (t171 != 0) = true := bne_iff_ne.mpr c5
    obtain rfl := Option.some.inj H
    go_enter Try.func18, Try.ntmps18
    go_wp2_with (first | ((with_reducible refine gate_callee (f := 9) rfl ?_); refine goesB (some 15) rfl rfl Try.func9 #[.slice A0 l0.length c0, .agg #[.int .i64 a1, .int .i64 0], .agg #[.int .i64 a1, .int .i64 0]] rfl ?_; (with_reducible refine (fill_Lines.calls k _ _ l0 a1 0 a1 0 t168 t171 _ ?side1 ?side2 A4.out).mono ?_); (case side1 => repeat (first | exact HR0.out | (with_reducible refine Kd.C_alloc ?_ _) | (with_reducible refine Kd.C_drewN ?_ _) | (with_reducible refine Kd.C_drew ?_))); (case side2 => exact HC0.out); rintro e w9 ⟨v169, rfl, ho0, hb⟩; refine ⟨_, rfl, ?_⟩; have HO170 := Aside0.mk (Kd.R_lower ho0 (below_size (bw HB))); replace HB := bh HB hb; (try clear hb); (try clear hb2); (try clear hk); (try clear hi); (try clear ho0)))
    go_ret
    exact ⟨by first | rfl | (simp [errW_none, errW_some] <;> rfl) | (simp [*, errW_none, errW_some] <;> rfl), by repeat (first | (with_reducible first | exact HB.out | apply below_alloc | apply pw_below_drewN | apply below_drew1) | exact HB.out)⟩

/-! ### stickfullaw14_head: function 8 -/
def stickfullaw14_head.f (k : Nat)  : Option (Bool) := (stickfullaw14_row.f k (([0, 0, 1, 0, 0] : List Int)) (([3] : List Int)) ([] : List Int)).bind fun t179 => ((stickfullaw14_row.f k (([0, 0, 0] : List Int)) ([] : List Int) (([1, 2] : List Int))).bind fun t188 => ((stickfullaw14_row.f k (([1, 0, 0] : List Int)) (([1] : List Int)) ([] : List Int)).bind fun t197 => ((stickfullaw14_row.f k (([0, 5, 0, 5] : List Int)) ([] : List Int) ([] : List Int)).bind fun t203 => ((some (([(⟨0, 3, false⟩ : S35), (⟨3, 5, false⟩ : S35)] : List (S35)) : List (S35))).bind fun y206 => ((fill_One.f k t179 6 0 0).bind fun bt209 => ((fill_One.f k t179 0 (-1) 0).bind fun bt214 => ((stickfullaw14_lines.f k t179 12 y206).bind fun t219 => (if t219 = true then ((stickfullaw14_lines.f k t179 10 y206).bind fun t220 => (if t220 = true then ((stickfullaw14_lines.f k t179 9 y206).bind fun t221 => (if t221 = true then ((stickfullaw14_lines.f k t179 25 (([(⟨0, 5, false⟩ : S35)] : List (S35)))).bind fun t225 => (if t225 = true then ((stickfullaw14_lines.f k t188 12 (([(⟨0, 2, false⟩ : S35), (⟨2, 3, false⟩ : S35)] : List (S35)))).bind fun t229 => (if t229 = true then ((stickfullaw14_lines.f k t188 4 (([(⟨0, 1, false⟩ : S35), (⟨1, 2, false⟩ : S35), (⟨2, 3, false⟩ : S35)] : List (S35)))).bind fun t233 => (if t233 = true then ((stickfullaw14_lines.f k t197 4 (([(⟨0, 3, false⟩ : S35)] : List (S35)))).bind fun t237 => (if t237 = true then ((stickfullaw14_lines.f k t203 99 (([(⟨0, 2, true⟩ : S35), (⟨2, 4, true⟩ : S35), (⟨4, 4, false⟩ : S35)] : List (S35)))).bind fun t241 => (if t241 = true then ((stickfullaw14_lines.f k ([] : List (S44)) 0 (([(⟨0, 0, false⟩ : S35)] : List (S35)))).bind fun t245 => (if t245 = true then (if bt209.2.2.2 = 2 then (some (bt214.2.2.2 == 2)) else (some false)) else (some false))) else (some false))) else (some false))) else (some false))) else (some false))) else (some false))) else (some false))) else (some false))) else (some false)))))))))
theorem stickfullaw14_head.mono : ∀ k, LeO (stickfullaw14_head.f k ) (stickfullaw14_head.f (k + 1) ) := by
  intro  k
  unfold stickfullaw14_head.f
  repeat' first
      | (with_reducible exact fill_One.mono _ _ _ _ _)
      | (with_reducible exact stickfullaw14_lines.mono _ _ _ _)
      | (with_reducible exact stickfullaw14_row.mono _ _ _ _)
      | (with_reducible exact LeO.refl _)
      | (with_reducible exact LeO.none _)
      | (with_reducible refine LeO.ite ?_ ?_)
      | (with_reducible refine LeO.bind ?_ (fun _ => ?_))
      | exact fill_One.mono _ _ _ _ _
      | exact stickfullaw14_lines.mono _ _ _ _
      | exact stickfullaw14_row.mono _ _ _ _
      | exact LeO.none _
      | refine LeO.ite ?_ ?_
      | refine LeO.bind ?_ (fun _ => ?_)
set_option maxHeartbeats 8000000 in
set_option maxRecDepth 100000 in
theorem stickfullaw14_head.calls_t (k : Nat)  (r : Bool) (w : World) (h : stickfullaw14_head.f k  = some r) (hr_ : r = true) :
    Calls Try.prog 8 #[] w fun e w' => e = .returned (.bool r) ∧ Below w.heap.size w w' := by
  have hu35 := Try.underlying35
  have hu24 := Try.underlying24
  have HR_ := Aside0.mk hr_
  clear hr_
  have HB := Aside0.mk (Below.refl w.heap.size w)
  have H : ((stickfullaw14_row.f k (([0, 0, 1, 0, 0] : List Int)) (([3] : List Int)) ([] : List Int)).bind fun t179 => ((stickfullaw14_row.f k (([0, 0, 0] : List Int)) ([] : List Int) (([1, 2] : List Int))).bind fun t188 => ((stickfullaw14_row.f k (([1, 0, 0] : List Int)) (([1] : List Int)) ([] : List Int)).bind fun t197 => ((stickfullaw14_row.f k (([0, 5, 0, 5] : List Int)) ([] : List Int) ([] : List Int)).bind fun t203 => ((some (([(⟨0, 3, false⟩ : S35), (⟨3, 5, false⟩ : S35)] : List (S35)) : List (S35))).bind fun y206 => ((fill_One.f k t179 6 0 0).bind fun bt209 => ((fill_One.f k t179 0 (-1) 0).bind fun bt214 => ((stickfullaw14_lines.f k t179 12 y206).bind fun t219 => (if t219 = true then ((stickfullaw14_lines.f k t179 10 y206).bind fun t220 => (if t220 = true then ((stickfullaw14_lines.f k t179 9 y206).bind fun t221 => (if t221 = true then ((stickfullaw14_lines.f k t179 25 (([(⟨0, 5, false⟩ : S35)] : List (S35)))).bind fun t225 => (if t225 = true then ((stickfullaw14_lines.f k t188 12 (([(⟨0, 2, false⟩ : S35), (⟨2, 3, false⟩ : S35)] : List (S35)))).bind fun t229 => (if t229 = true then ((stickfullaw14_lines.f k t188 4 (([(⟨0, 1, false⟩ : S35), (⟨1, 2, false⟩ : S35), (⟨2, 3, false⟩ : S35)] : List (S35)))).bind fun t233 => (if t233 = true then ((stickfullaw14_lines.f k t197 4 (([(⟨0, 3, false⟩ : S35)] : List (S35)))).bind fun t237 => (if t237 = true then ((stickfullaw14_lines.f k t203 99 (([(⟨0, 2, true⟩ : S35), (⟨2, 4, true⟩ : S35), (⟨4, 4, false⟩ : S35)] : List (S35)))).bind fun t241 => (if t241 = true then ((stickfullaw14_lines.f k ([] : List (S44)) 0 (([(⟨0, 0, false⟩ : S35)] : List (S35)))).bind fun t245 => (if t245 = true then (if bt209.2.2.2 = 2 then (some (bt214.2.2.2 == 2)) else (some false)) else (some false))) else (some false))) else (some false))) else (some false))) else (some false))) else (some false))) else (some false))) else (some false))) else (some false)))))))))) = some r := h
  clear h
  obtain ⟨y173, hy173⟩ : ∃ y_ : List Int, y_ = (([0, 0, 1, 0, 0] : List Int)) := ⟨_, rfl⟩
  replace H : ((stickfullaw14_row.f k y173 (([3] : List Int)) ([] : List Int)).bind fun t179 => ((stickfullaw14_row.f k (([0, 0, 0] : List Int)) ([] : List Int) (([1, 2] : List Int))).bind fun t188 => ((stickfullaw14_row.f k (([1, 0, 0] : List Int)) (([1] : List Int)) ([] : List Int)).bind fun t197 => ((stickfullaw14_row.f k (([0, 5, 0, 5] : List Int)) ([] : List Int) ([] : List Int)).bind fun t203 => ((some (([(⟨0, 3, false⟩ : S35), (⟨3, 5, false⟩ : S35)] : List (S35)) : List (S35))).bind fun y206 => ((fill_One.f k t179 6 0 0).bind fun bt209 => ((fill_One.f k t179 0 (-1) 0).bind fun bt214 => ((stickfullaw14_lines.f k t179 12 y206).bind fun t219 => (if t219 = true then ((stickfullaw14_lines.f k t179 10 y206).bind fun t220 => (if t220 = true then ((stickfullaw14_lines.f k t179 9 y206).bind fun t221 => (if t221 = true then ((stickfullaw14_lines.f k t179 25 (([(⟨0, 5, false⟩ : S35)] : List (S35)))).bind fun t225 => (if t225 = true then ((stickfullaw14_lines.f k t188 12 (([(⟨0, 2, false⟩ : S35), (⟨2, 3, false⟩ : S35)] : List (S35)))).bind fun t229 => (if t229 = true then ((stickfullaw14_lines.f k t188 4 (([(⟨0, 1, false⟩ : S35), (⟨1, 2, false⟩ : S35), (⟨2, 3, false⟩ : S35)] : List (S35)))).bind fun t233 => (if t233 = true then ((stickfullaw14_lines.f k t197 4 (([(⟨0, 3, false⟩ : S35)] : List (S35)))).bind fun t237 => (if t237 = true then ((stickfullaw14_lines.f k t203 99 (([(⟨0, 2, true⟩ : S35), (⟨2, 4, true⟩ : S35), (⟨4, 4, false⟩ : S35)] : List (S35)))).bind fun t241 => (if t241 = true then ((stickfullaw14_lines.f k ([] : List (S44)) 0 (([(⟨0, 0, false⟩ : S35)] : List (S35)))).bind fun t245 => (if t245 = true then (if bt209.2.2.2 = 2 then (some (bt214.2.2.2 == 2)) else (some false)) else (some false))) else (some false))) else (some false))) else (some false))) else (some false))) else (some false))) else (some false))) else (some false))) else (some false)))))))))) = some r := by first | (rw [hy173]; with_reducible exact H) | (have H2_ := (Option.bind_some _ _).symm.trans H; rw [hy173]; with_reducible exact H2_) | (have H2_ := (Option.bind_some _ _).symm.trans H; with_reducible exact H2_) | with_reducible exact H | (rw [hy173]; exact H) | exact H
  have Ny173 := Aside0.mk hy173
  clear hy173
  obtain ⟨y176, hy176⟩ : ∃ y_ : List Int, y_ = (([3] : List Int)) := ⟨_, rfl⟩
  replace H : ((stickfullaw14_row.f k y173 y176 ([] : List Int)).bind fun t179 => ((stickfullaw14_row.f k (([0, 0, 0] : List Int)) ([] : List Int) (([1, 2] : List Int))).bind fun t188 => ((stickfullaw14_row.f k (([1, 0, 0] : List Int)) (([1] : List Int)) ([] : List Int)).bind fun t197 => ((stickfullaw14_row.f k (([0, 5, 0, 5] : List Int)) ([] : List Int) ([] : List Int)).bind fun t203 => ((some (([(⟨0, 3, false⟩ : S35), (⟨3, 5, false⟩ : S35)] : List (S35)) : List (S35))).bind fun y206 => ((fill_One.f k t179 6 0 0).bind fun bt209 => ((fill_One.f k t179 0 (-1) 0).bind fun bt214 => ((stickfullaw14_lines.f k t179 12 y206).bind fun t219 => (if t219 = true then ((stickfullaw14_lines.f k t179 10 y206).bind fun t220 => (if t220 = true then ((stickfullaw14_lines.f k t179 9 y206).bind fun t221 => (if t221 = true then ((stickfullaw14_lines.f k t179 25 (([(⟨0, 5, false⟩ : S35)] : List (S35)))).bind fun t225 => (if t225 = true then ((stickfullaw14_lines.f k t188 12 (([(⟨0, 2, false⟩ : S35), (⟨2, 3, false⟩ : S35)] : List (S35)))).bind fun t229 => (if t229 = true then ((stickfullaw14_lines.f k t188 4 (([(⟨0, 1, false⟩ : S35), (⟨1, 2, false⟩ : S35), (⟨2, 3, false⟩ : S35)] : List (S35)))).bind fun t233 => (if t233 = true then ((stickfullaw14_lines.f k t197 4 (([(⟨0, 3, false⟩ : S35)] : List (S35)))).bind fun t237 => (if t237 = true then ((stickfullaw14_lines.f k t203 99 (([(⟨0, 2, true⟩ : S35), (⟨2, 4, true⟩ : S35), (⟨4, 4, false⟩ : S35)] : List (S35)))).bind fun t241 => (if t241 = true then ((stickfullaw14_lines.f k ([] : List (S44)) 0 (([(⟨0, 0, false⟩ : S35)] : List (S35)))).bind fun t245 => (if t245 = true then (if bt209.2.2.2 = 2 then (some (bt214.2.2.2 == 2)) else (some false)) else (some false))) else (some false))) else (some false))) else (some false))) else (some false))) else (some false))) else (some false))) else (some false))) else (some false)))))))))) = some r := by first | (rw [hy176]; with_reducible exact H) | (have H2_ := (Option.bind_some _ _).symm.trans H; rw [hy176]; with_reducible exact H2_) | (have H2_ := (Option.bind_some _ _).symm.trans H; with_reducible exact H2_) | with_reducible exact H | (rw [hy176]; exact H) | exact H
  have Ny176 := Aside0.mk hy176
  clear hy176
  replace H := Option.bind_eq_some_iff.mp H
  obtain ⟨t179, A10, H⟩ := H
  replace H : ((stickfullaw14_row.f k (([0, 0, 0] : List Int)) ([] : List Int) (([1, 2] : List Int))).bind fun t188 => ((stickfullaw14_row.f k (([1, 0, 0] : List Int)) (([1] : List Int)) ([] : List Int)).bind fun t197 => ((stickfullaw14_row.f k (([0, 5, 0, 5] : List Int)) ([] : List Int) ([] : List Int)).bind fun t203 => ((some (([(⟨0, 3, false⟩ : S35), (⟨3, 5, false⟩ : S35)] : List (S35)) : List (S35))).bind fun y206 => ((fill_One.f k t179 6 0 0).bind fun bt209 => ((fill_One.f k t179 0 (-1) 0).bind fun bt214 => ((stickfullaw14_lines.f k t179 12 y206).bind fun t219 => (if t219 = true then ((stickfullaw14_lines.f k t179 10 y206).bind fun t220 => (if t220 = true then ((stickfullaw14_lines.f k t179 9 y206).bind fun t221 => (if t221 = true then ((stickfullaw14_lines.f k t179 25 (([(⟨0, 5, false⟩ : S35)] : List (S35)))).bind fun t225 => (if t225 = true then ((stickfullaw14_lines.f k t188 12 (([(⟨0, 2, false⟩ : S35), (⟨2, 3, false⟩ : S35)] : List (S35)))).bind fun t229 => (if t229 = true then ((stickfullaw14_lines.f k t188 4 (([(⟨0, 1, false⟩ : S35), (⟨1, 2, false⟩ : S35), (⟨2, 3, false⟩ : S35)] : List (S35)))).bind fun t233 => (if t233 = true then ((stickfullaw14_lines.f k t197 4 (([(⟨0, 3, false⟩ : S35)] : List (S35)))).bind fun t237 => (if t237 = true then ((stickfullaw14_lines.f k t203 99 (([(⟨0, 2, true⟩ : S35), (⟨2, 4, true⟩ : S35), (⟨4, 4, false⟩ : S35)] : List (S35)))).bind fun t241 => (if t241 = true then ((stickfullaw14_lines.f k ([] : List (S44)) 0 (([(⟨0, 0, false⟩ : S35)] : List (S35)))).bind fun t245 => (if t245 = true then (if bt209.2.2.2 = 2 then (some (bt214.2.2.2 == 2)) else (some false)) else (some false))) else (some false))) else (some false))) else (some false))) else (some false))) else (some false))) else (some false))) else (some false))) else (some false))))))))) = some r := H
  have A1 := Aside0.mk A10
  clear A10
  obtain ⟨y182, hy182⟩ : ∃ y_ : List Int, y_ = (([0, 0, 0] : List Int)) := ⟨_, rfl⟩
  replace H : ((stickfullaw14_row.f k y182 ([] : List Int) (([1, 2] : List Int))).bind fun t188 => ((stickfullaw14_row.f k (([1, 0, 0] : List Int)) (([1] : List Int)) ([] : List Int)).bind fun t197 => ((stickfullaw14_row.f k (([0, 5, 0, 5] : List Int)) ([] : List Int) ([] : List Int)).bind fun t203 => ((some (([(⟨0, 3, false⟩ : S35), (⟨3, 5, false⟩ : S35)] : List (S35)) : List (S35))).bind fun y206 => ((fill_One.f k t179 6 0 0).bind fun bt209 => ((fill_One.f k t179 0 (-1) 0).bind fun bt214 => ((stickfullaw14_lines.f k t179 12 y206).bind fun t219 => (if t219 = true then ((stickfullaw14_lines.f k t179 10 y206).bind fun t220 => (if t220 = true then ((stickfullaw14_lines.f k t179 9 y206).bind fun t221 => (if t221 = true then ((stickfullaw14_lines.f k t179 25 (([(⟨0, 5, false⟩ : S35)] : List (S35)))).bind fun t225 => (if t225 = true then ((stickfullaw14_lines.f k t188 12 (([(⟨0, 2, false⟩ : S35), (⟨2, 3, false⟩ : S35)] : List (S35)))).bind fun t229 => (if t229 = true then ((stickfullaw14_lines.f k t188 4 (([(⟨0, 1, false⟩ : S35), (⟨1, 2, false⟩ : S35), (⟨2, 3, false⟩ : S35)] : List (S35)))).bind fun t233 => (if t233 = true then ((stickfullaw14_lines.f k t197 4 (([(⟨0, 3, false⟩ : S35)] : List (S35)))).bind fun t237 => (if t237 = true then ((stickfullaw14_lines.f k t203 99 (([(⟨0, 2, true⟩ : S35), (⟨2, 4, true⟩ : S35), (⟨4, 4, false⟩ : S35)] : List (S35)))).bind fun t241 => (if t241 = true then ((stickfullaw14_lines.f k ([] : List (S44)) 0 (([(⟨0, 0, false⟩ : S35)] : List (S35)))).bind fun t245 => (if t245 = true then (if bt209.2.2.2 = 2 then (some (bt214.2.2.2 == 2)) else (some false)) else (some false))) else (some false))) else (some false))) else (some false))) else (some false))) else (some false))) else (some false))) else (some false))) else (some false))))))))) = some r := by first | (rw [hy182]; with_reducible exact H) | (have H2_ := (Option.bind_some _ _).symm.trans H; rw [hy182]; with_reducible exact H2_) | (have H2_ := (Option.bind_some _ _).symm.trans H; with_reducible exact H2_) | with_reducible exact H | (rw [hy182]; exact H) | exact H
  have Ny182 := Aside0.mk hy182
  clear hy182
  obtain ⟨y185, hy185⟩ : ∃ y_ : List Int, y_ = (([1, 2] : List Int)) := ⟨_, rfl⟩
  replace H : ((stickfullaw14_row.f k y182 ([] : List Int) y185).bind fun t188 => ((stickfullaw14_row.f k (([1, 0, 0] : List Int)) (([1] : List Int)) ([] : List Int)).bind fun t197 => ((stickfullaw14_row.f k (([0, 5, 0, 5] : List Int)) ([] : List Int) ([] : List Int)).bind fun t203 => ((some (([(⟨0, 3, false⟩ : S35), (⟨3, 5, false⟩ : S35)] : List (S35)) : List (S35))).bind fun y206 => ((fill_One.f k t179 6 0 0).bind fun bt209 => ((fill_One.f k t179 0 (-1) 0).bind fun bt214 => ((stickfullaw14_lines.f k t179 12 y206).bind fun t219 => (if t219 = true then ((stickfullaw14_lines.f k t179 10 y206).bind fun t220 => (if t220 = true then ((stickfullaw14_lines.f k t179 9 y206).bind fun t221 => (if t221 = true then ((stickfullaw14_lines.f k t179 25 (([(⟨0, 5, false⟩ : S35)] : List (S35)))).bind fun t225 => (if t225 = true then ((stickfullaw14_lines.f k t188 12 (([(⟨0, 2, false⟩ : S35), (⟨2, 3, false⟩ : S35)] : List (S35)))).bind fun t229 => (if t229 = true then ((stickfullaw14_lines.f k t188 4 (([(⟨0, 1, false⟩ : S35), (⟨1, 2, false⟩ : S35), (⟨2, 3, false⟩ : S35)] : List (S35)))).bind fun t233 => (if t233 = true then ((stickfullaw14_lines.f k t197 4 (([(⟨0, 3, false⟩ : S35)] : List (S35)))).bind fun t237 => (if t237 = true then ((stickfullaw14_lines.f k t203 99 (([(⟨0, 2, true⟩ : S35), (⟨2, 4, true⟩ : S35), (⟨4, 4, false⟩ : S35)] : List (S35)))).bind fun t241 => (if t241 = true then ((stickfullaw14_lines.f k ([] : List (S44)) 0 (([(⟨0, 0, false⟩ : S35)] : List (S35)))).bind fun t245 => (if t245 = true then (if bt209.2.2.2 = 2 then (some (bt214.2.2.2 == 2)) else (some false)) else (some false))) else (some false))) else (some false))) else (some false))) else (some false))) else (some false))) else (some false))) else (some false))) else (some false))))))))) = some r := by first | (rw [hy185]; with_reducible exact H) | (have H2_ := (Option.bind_some _ _).symm.trans H; rw [hy185]; with_reducible exact H2_) | (have H2_ := (Option.bind_some _ _).symm.trans H; with_reducible exact H2_) | with_reducible exact H | (rw [hy185]; exact H) | exact H
  have Ny185 := Aside0.mk hy185
  clear hy185
  replace H := Option.bind_eq_some_iff.mp H
  obtain ⟨t188, A20, H⟩ := H
  replace H : ((stickfullaw14_row.f k (([1, 0, 0] : List Int)) (([1] : List Int)) ([] : List Int)).bind fun t197 => ((stickfullaw14_row.f k (([0, 5, 0, 5] : List Int)) ([] : List Int) ([] : List Int)).bind fun t203 => ((some (([(⟨0, 3, false⟩ : S35), (⟨3, 5, false⟩ : S35)] : List (S35)) : List (S35))).bind fun y206 => ((fill_One.f k t179 6 0 0).bind fun bt209 => ((fill_One.f k t179 0 (-1) 0).bind fun bt214 => ((stickfullaw14_lines.f k t179 12 y206).bind fun t219 => (if t219 = true then ((stickfullaw14_lines.f k t179 10 y206).bind fun t220 => (if t220 = true then ((stickfullaw14_lines.f k t179 9 y206).bind fun t221 => (if t221 = true then ((stickfullaw14_lines.f k t179 25 (([(⟨0, 5, false⟩ : S35)] : List (S35)))).bind fun t225 => (if t225 = true then ((stickfullaw14_lines.f k t188 12 (([(⟨0, 2, false⟩ : S35), (⟨2, 3, false⟩ : S35)] : List (S35)))).bind fun t229 => (if t229 = true then ((stickfullaw14_lines.f k t188 4 (([(⟨0, 1, false⟩ : S35), (⟨1, 2, false⟩ : S35), (⟨2, 3, false⟩ : S35)] : List (S35)))).bind fun t233 => (if t233 = true then ((stickfullaw14_lines.f k t197 4 (([(⟨0, 3, false⟩ : S35)] : List (S35)))).bind fun t237 => (if t237 = true then ((stickfullaw14_lines.f k t203 99 (([(⟨0, 2, true⟩ : S35), (⟨2, 4, true⟩ : S35), (⟨4, 4, false⟩ : S35)] : List (S35)))).bind fun t241 => (if t241 = true then ((stickfullaw14_lines.f k ([] : List (S44)) 0 (([(⟨0, 0, false⟩ : S35)] : List (S35)))).bind fun t245 => (if t245 = true then (if bt209.2.2.2 = 2 then (some (bt214.2.2.2 == 2)) else (some false)) else (some false))) else (some false))) else (some false))) else (some false))) else (some false))) else (some false))) else (some false))) else (some false))) else (some false)))))))) = some r := H
  have A2 := Aside0.mk A20
  clear A20
  obtain ⟨y191, hy191⟩ : ∃ y_ : List Int, y_ = (([1, 0, 0] : List Int)) := ⟨_, rfl⟩
  replace H : ((stickfullaw14_row.f k y191 (([1] : List Int)) ([] : List Int)).bind fun t197 => ((stickfullaw14_row.f k (([0, 5, 0, 5] : List Int)) ([] : List Int) ([] : List Int)).bind fun t203 => ((some (([(⟨0, 3, false⟩ : S35), (⟨3, 5, false⟩ : S35)] : List (S35)) : List (S35))).bind fun y206 => ((fill_One.f k t179 6 0 0).bind fun bt209 => ((fill_One.f k t179 0 (-1) 0).bind fun bt214 => ((stickfullaw14_lines.f k t179 12 y206).bind fun t219 => (if t219 = true then ((stickfullaw14_lines.f k t179 10 y206).bind fun t220 => (if t220 = true then ((stickfullaw14_lines.f k t179 9 y206).bind fun t221 => (if t221 = true then ((stickfullaw14_lines.f k t179 25 (([(⟨0, 5, false⟩ : S35)] : List (S35)))).bind fun t225 => (if t225 = true then ((stickfullaw14_lines.f k t188 12 (([(⟨0, 2, false⟩ : S35), (⟨2, 3, false⟩ : S35)] : List (S35)))).bind fun t229 => (if t229 = true then ((stickfullaw14_lines.f k t188 4 (([(⟨0, 1, false⟩ : S35), (⟨1, 2, false⟩ : S35), (⟨2, 3, false⟩ : S35)] : List (S35)))).bind fun t233 => (if t233 = true then ((stickfullaw14_lines.f k t197 4 (([(⟨0, 3, false⟩ : S35)] : List (S35)))).bind fun t237 => (if t237 = true then ((stickfullaw14_lines.f k t203 99 (([(⟨0, 2, true⟩ : S35), (⟨2, 4, true⟩ : S35), (⟨4, 4, false⟩ : S35)] : List (S35)))).bind fun t241 => (if t241 = true then ((stickfullaw14_lines.f k ([] : List (S44)) 0 (([(⟨0, 0, false⟩ : S35)] : List (S35)))).bind fun t245 => (if t245 = true then (if bt209.2.2.2 = 2 then (some (bt214.2.2.2 == 2)) else (some false)) else (some false))) else (some false))) else (some false))) else (some false))) else (some false))) else (some false))) else (some false))) else (some false))) else (some false)))))))) = some r := by first | (rw [hy191]; with_reducible exact H) | (have H2_ := (Option.bind_some _ _).symm.trans H; rw [hy191]; with_reducible exact H2_) | (have H2_ := (Option.bind_some _ _).symm.trans H; with_reducible exact H2_) | with_reducible exact H | (rw [hy191]; exact H) | exact H
  have Ny191 := Aside0.mk hy191
  clear hy191
  obtain ⟨y194, hy194⟩ : ∃ y_ : List Int, y_ = (([1] : List Int)) := ⟨_, rfl⟩
  replace H : ((stickfullaw14_row.f k y191 y194 ([] : List Int)).bind fun t197 => ((stickfullaw14_row.f k (([0, 5, 0, 5] : List Int)) ([] : List Int) ([] : List Int)).bind fun t203 => ((some (([(⟨0, 3, false⟩ : S35), (⟨3, 5, false⟩ : S35)] : List (S35)) : List (S35))).bind fun y206 => ((fill_One.f k t179 6 0 0).bind fun bt209 => ((fill_One.f k t179 0 (-1) 0).bind fun bt214 => ((stickfullaw14_lines.f k t179 12 y206).bind fun t219 => (if t219 = true then ((stickfullaw14_lines.f k t179 10 y206).bind fun t220 => (if t220 = true then ((stickfullaw14_lines.f k t179 9 y206).bind fun t221 => (if t221 = true then ((stickfullaw14_lines.f k t179 25 (([(⟨0, 5, false⟩ : S35)] : List (S35)))).bind fun t225 => (if t225 = true then ((stickfullaw14_lines.f k t188 12 (([(⟨0, 2, false⟩ : S35), (⟨2, 3, false⟩ : S35)] : List (S35)))).bind fun t229 => (if t229 = true then ((stickfullaw14_lines.f k t188 4 (([(⟨0, 1, false⟩ : S35), (⟨1, 2, false⟩ : S35), (⟨2, 3, false⟩ : S35)] : List (S35)))).bind fun t233 => (if t233 = true then ((stickfullaw14_lines.f k t197 4 (([(⟨0, 3, false⟩ : S35)] : List (S35)))).bind fun t237 => (if t237 = true then ((stickfullaw14_lines.f k t203 99 (([(⟨0, 2, true⟩ : S35), (⟨2, 4, true⟩ : S35), (⟨4, 4, false⟩ : S35)] : List (S35)))).bind fun t241 => (if t241 = true then ((stickfullaw14_lines.f k ([] : List (S44)) 0 (([(⟨0, 0, false⟩ : S35)] : List (S35)))).bind fun t245 => (if t245 = true then (if bt209.2.2.2 = 2 then (some (bt214.2.2.2 == 2)) else (some false)) else (some false))) else (some false))) else (some false))) else (some false))) else (some false))) else (some false))) else (some false))) else (some false))) else (some false)))))))) = some r := by first | (rw [hy194]; with_reducible exact H) | (have H2_ := (Option.bind_some _ _).symm.trans H; rw [hy194]; with_reducible exact H2_) | (have H2_ := (Option.bind_some _ _).symm.trans H; with_reducible exact H2_) | with_reducible exact H | (rw [hy194]; exact H) | exact H
  have Ny194 := Aside0.mk hy194
  clear hy194
  replace H := Option.bind_eq_some_iff.mp H
  obtain ⟨t197, A30, H⟩ := H
  replace H : ((stickfullaw14_row.f k (([0, 5, 0, 5] : List Int)) ([] : List Int) ([] : List Int)).bind fun t203 => ((some (([(⟨0, 3, false⟩ : S35), (⟨3, 5, false⟩ : S35)] : List (S35)) : List (S35))).bind fun y206 => ((fill_One.f k t179 6 0 0).bind fun bt209 => ((fill_One.f k t179 0 (-1) 0).bind fun bt214 => ((stickfullaw14_lines.f k t179 12 y206).bind fun t219 => (if t219 = true then ((stickfullaw14_lines.f k t179 10 y206).bind fun t220 => (if t220 = true then ((stickfullaw14_lines.f k t179 9 y206).bind fun t221 => (if t221 = true then ((stickfullaw14_lines.f k t179 25 (([(⟨0, 5, false⟩ : S35)] : List (S35)))).bind fun t225 => (if t225 = true then ((stickfullaw14_lines.f k t188 12 (([(⟨0, 2, false⟩ : S35), (⟨2, 3, false⟩ : S35)] : List (S35)))).bind fun t229 => (if t229 = true then ((stickfullaw14_lines.f k t188 4 (([(⟨0, 1, false⟩ : S35), (⟨1, 2, false⟩ : S35), (⟨2, 3, false⟩ : S35)] : List (S35)))).bind fun t233 => (if t233 = true then ((stickfullaw14_lines.f k t197 4 (([(⟨0, 3, false⟩ : S35)] : List (S35)))).bind fun t237 => (if t237 = true then ((stickfullaw14_lines.f k t203 99 (([(⟨0, 2, true⟩ : S35), (⟨2, 4, true⟩ : S35), (⟨4, 4, false⟩ : S35)] : List (S35)))).bind fun t241 => (if t241 = true then ((stickfullaw14_lines.f k ([] : List (S44)) 0 (([(⟨0, 0, false⟩ : S35)] : List (S35)))).bind fun t245 => (if t245 = true then (if bt209.2.2.2 = 2 then (some (bt214.2.2.2 == 2)) else (some false)) else (some false))) else (some false))) else (some false))) else (some false))) else (some false))) else (some false))) else (some false))) else (some false))) else (some false))))))) = some r := H
  have A3 := Aside0.mk A30
  clear A30
  obtain ⟨y200, hy200⟩ : ∃ y_ : List Int, y_ = (([0, 5, 0, 5] : List Int)) := ⟨_, rfl⟩
  replace H : ((stickfullaw14_row.f k y200 ([] : List Int) ([] : List Int)).bind fun t203 => ((some (([(⟨0, 3, false⟩ : S35), (⟨3, 5, false⟩ : S35)] : List (S35)) : List (S35))).bind fun y206 => ((fill_One.f k t179 6 0 0).bind fun bt209 => ((fill_One.f k t179 0 (-1) 0).bind fun bt214 => ((stickfullaw14_lines.f k t179 12 y206).bind fun t219 => (if t219 = true then ((stickfullaw14_lines.f k t179 10 y206).bind fun t220 => (if t220 = true then ((stickfullaw14_lines.f k t179 9 y206).bind fun t221 => (if t221 = true then ((stickfullaw14_lines.f k t179 25 (([(⟨0, 5, false⟩ : S35)] : List (S35)))).bind fun t225 => (if t225 = true then ((stickfullaw14_lines.f k t188 12 (([(⟨0, 2, false⟩ : S35), (⟨2, 3, false⟩ : S35)] : List (S35)))).bind fun t229 => (if t229 = true then ((stickfullaw14_lines.f k t188 4 (([(⟨0, 1, false⟩ : S35), (⟨1, 2, false⟩ : S35), (⟨2, 3, false⟩ : S35)] : List (S35)))).bind fun t233 => (if t233 = true then ((stickfullaw14_lines.f k t197 4 (([(⟨0, 3, false⟩ : S35)] : List (S35)))).bind fun t237 => (if t237 = true then ((stickfullaw14_lines.f k t203 99 (([(⟨0, 2, true⟩ : S35), (⟨2, 4, true⟩ : S35), (⟨4, 4, false⟩ : S35)] : List (S35)))).bind fun t241 => (if t241 = true then ((stickfullaw14_lines.f k ([] : List (S44)) 0 (([(⟨0, 0, false⟩ : S35)] : List (S35)))).bind fun t245 => (if t245 = true then (if bt209.2.2.2 = 2 then (some (bt214.2.2.2 == 2)) else (some false)) else (some false))) else (some false))) else (some false))) else (some false))) else (some false))) else (some false))) else (some false))) else (some false))) else (some false))))))) = some r := by first | (rw [hy200]; with_reducible exact H) | (have H2_ := (Option.bind_some _ _).symm.trans H; rw [hy200]; with_reducible exact H2_) | (have H2_ := (Option.bind_some _ _).symm.trans H; with_reducible exact H2_) | with_reducible exact H | (rw [hy200]; exact H) | exact H
  have Ny200 := Aside0.mk hy200
  clear hy200
  replace H := Option.bind_eq_some_iff.mp H
  obtain ⟨t203, A40, H⟩ := H
  replace H : ((some (([(⟨0, 3, false⟩ : S35), (⟨3, 5, false⟩ : S35)] : List (S35)) : List (S35))).bind fun y206 => ((fill_One.f k t179 6 0 0).bind fun bt209 => ((fill_One.f k t179 0 (-1) 0).bind fun bt214 => ((stickfullaw14_lines.f k t179 12 y206).bind fun t219 => (if t219 = true then ((stickfullaw14_lines.f k t179 10 y206).bind fun t220 => (if t220 = true then ((stickfullaw14_lines.f k t179 9 y206).bind fun t221 => (if t221 = true then ((stickfullaw14_lines.f k t179 25 (([(⟨0, 5, false⟩ : S35)] : List (S35)))).bind fun t225 => (if t225 = true then ((stickfullaw14_lines.f k t188 12 (([(⟨0, 2, false⟩ : S35), (⟨2, 3, false⟩ : S35)] : List (S35)))).bind fun t229 => (if t229 = true then ((stickfullaw14_lines.f k t188 4 (([(⟨0, 1, false⟩ : S35), (⟨1, 2, false⟩ : S35), (⟨2, 3, false⟩ : S35)] : List (S35)))).bind fun t233 => (if t233 = true then ((stickfullaw14_lines.f k t197 4 (([(⟨0, 3, false⟩ : S35)] : List (S35)))).bind fun t237 => (if t237 = true then ((stickfullaw14_lines.f k t203 99 (([(⟨0, 2, true⟩ : S35), (⟨2, 4, true⟩ : S35), (⟨4, 4, false⟩ : S35)] : List (S35)))).bind fun t241 => (if t241 = true then ((stickfullaw14_lines.f k ([] : List (S44)) 0 (([(⟨0, 0, false⟩ : S35)] : List (S35)))).bind fun t245 => (if t245 = true then (if bt209.2.2.2 = 2 then (some (bt214.2.2.2 == 2)) else (some false)) else (some false))) else (some false))) else (some false))) else (some false))) else (some false))) else (some false))) else (some false))) else (some false))) else (some false)))))) = some r := H
  have A4 := Aside0.mk A40
  clear A40
  obtain ⟨y206, hy206⟩ : ∃ y_ : List (S35), y_ = (([(⟨0, 3, false⟩ : S35), (⟨3, 5, false⟩ : S35)] : List (S35))) := ⟨_, rfl⟩
  replace H : ((fill_One.f k t179 6 0 0).bind fun bt209 => ((fill_One.f k t179 0 (-1) 0).bind fun bt214 => ((stickfullaw14_lines.f k t179 12 y206).bind fun t219 => (if t219 = true then ((stickfullaw14_lines.f k t179 10 y206).bind fun t220 => (if t220 = true then ((stickfullaw14_lines.f k t179 9 y206).bind fun t221 => (if t221 = true then ((stickfullaw14_lines.f k t179 25 (([(⟨0, 5, false⟩ : S35)] : List (S35)))).bind fun t225 => (if t225 = true then ((stickfullaw14_lines.f k t188 12 (([(⟨0, 2, false⟩ : S35), (⟨2, 3, false⟩ : S35)] : List (S35)))).bind fun t229 => (if t229 = true then ((stickfullaw14_lines.f k t188 4 (([(⟨0, 1, false⟩ : S35), (⟨1, 2, false⟩ : S35), (⟨2, 3, false⟩ : S35)] : List (S35)))).bind fun t233 => (if t233 = true then ((stickfullaw14_lines.f k t197 4 (([(⟨0, 3, false⟩ : S35)] : List (S35)))).bind fun t237 => (if t237 = true then ((stickfullaw14_lines.f k t203 99 (([(⟨0, 2, true⟩ : S35), (⟨2, 4, true⟩ : S35), (⟨4, 4, false⟩ : S35)] : List (S35)))).bind fun t241 => (if t241 = true then ((stickfullaw14_lines.f k ([] : List (S44)) 0 (([(⟨0, 0, false⟩ : S35)] : List (S35)))).bind fun t245 => (if t245 = true then (if bt209.2.2.2 = 2 then (some (bt214.2.2.2 == 2)) else (some false)) else (some false))) else (some false))) else (some false))) else (some false))) else (some false))) else (some false))) else (some false))) else (some false))) else (some false))))) = some r := by first | (rw [hy206]; with_reducible exact H) | (have H2_ := (Option.bind_some _ _).symm.trans H; rw [hy206]; with_reducible exact H2_) | (have H2_ := (Option.bind_some _ _).symm.trans H; with_reducible exact H2_) | with_reducible exact H | (rw [hy206]; exact H) | exact H
  have Ny206 := Aside0.mk hy206
  clear hy206
  replace H := Option.bind_eq_some_iff.mp H
  obtain ⟨⟨t209, t210, t211, t212⟩, A50, H⟩ := H
  replace H : ((fill_One.f k t179 0 (-1) 0).bind fun bt214 => ((stickfullaw14_lines.f k t179 12 y206).bind fun t219 => (if t219 = true then ((stickfullaw14_lines.f k t179 10 y206).bind fun t220 => (if t220 = true then ((stickfullaw14_lines.f k t179 9 y206).bind fun t221 => (if t221 = true then ((stickfullaw14_lines.f k t179 25 (([(⟨0, 5, false⟩ : S35)] : List (S35)))).bind fun t225 => (if t225 = true then ((stickfullaw14_lines.f k t188 12 (([(⟨0, 2, false⟩ : S35), (⟨2, 3, false⟩ : S35)] : List (S35)))).bind fun t229 => (if t229 = true then ((stickfullaw14_lines.f k t188 4 (([(⟨0, 1, false⟩ : S35), (⟨1, 2, false⟩ : S35), (⟨2, 3, false⟩ : S35)] : List (S35)))).bind fun t233 => (if t233 = true then ((stickfullaw14_lines.f k t197 4 (([(⟨0, 3, false⟩ : S35)] : List (S35)))).bind fun t237 => (if t237 = true then ((stickfullaw14_lines.f k t203 99 (([(⟨0, 2, true⟩ : S35), (⟨2, 4, true⟩ : S35), (⟨4, 4, false⟩ : S35)] : List (S35)))).bind fun t241 => (if t241 = true then ((stickfullaw14_lines.f k ([] : List (S44)) 0 (([(⟨0, 0, false⟩ : S35)] : List (S35)))).bind fun t245 => (if t245 = true then (if t212 = 2 then (some (bt214.2.2.2 == 2)) else (some false)) else (some false))) else (some false))) else (some false))) else (some false))) else (some false))) else (some false))) else (some false))) else (some false))) else (some false)))) = some r := H
  have A5 := Aside0.mk A50
  clear A50
  replace H := Option.bind_eq_some_iff.mp H
  obtain ⟨⟨t214, t215, t216, t217⟩, A60, H⟩ := H
  replace H : ((stickfullaw14_lines.f k t179 12 y206).bind fun t219 => (if t219 = true then ((stickfullaw14_lines.f k t179 10 y206).bind fun t220 => (if t220 = true then ((stickfullaw14_lines.f k t179 9 y206).bind fun t221 => (if t221 = true then ((stickfullaw14_lines.f k t179 25 (([(⟨0, 5, false⟩ : S35)] : List (S35)))).bind fun t225 => (if t225 = true then ((stickfullaw14_lines.f k t188 12 (([(⟨0, 2, false⟩ : S35), (⟨2, 3, false⟩ : S35)] : List (S35)))).bind fun t229 => (if t229 = true then ((stickfullaw14_lines.f k t188 4 (([(⟨0, 1, false⟩ : S35), (⟨1, 2, false⟩ : S35), (⟨2, 3, false⟩ : S35)] : List (S35)))).bind fun t233 => (if t233 = true then ((stickfullaw14_lines.f k t197 4 (([(⟨0, 3, false⟩ : S35)] : List (S35)))).bind fun t237 => (if t237 = true then ((stickfullaw14_lines.f k t203 99 (([(⟨0, 2, true⟩ : S35), (⟨2, 4, true⟩ : S35), (⟨4, 4, false⟩ : S35)] : List (S35)))).bind fun t241 => (if t241 = true then ((stickfullaw14_lines.f k ([] : List (S44)) 0 (([(⟨0, 0, false⟩ : S35)] : List (S35)))).bind fun t245 => (if t245 = true then (if t212 = 2 then (some (t217 == 2)) else (some false)) else (some false))) else (some false))) else (some false))) else (some false))) else (some false))) else (some false))) else (some false))) else (some false))) else (some false))) = some r := H
  have A6 := Aside0.mk A60
  clear A60
  replace H := Option.bind_eq_some_iff.mp H
  obtain ⟨t219, A70, H⟩ := H
  replace H : (if t219 = true then ((stickfullaw14_lines.f k t179 10 y206).bind fun t220 => (if t220 = true then ((stickfullaw14_lines.f k t179 9 y206).bind fun t221 => (if t221 = true then ((stickfullaw14_lines.f k t179 25 (([(⟨0, 5, false⟩ : S35)] : List (S35)))).bind fun t225 => (if t225 = true then ((stickfullaw14_lines.f k t188 12 (([(⟨0, 2, false⟩ : S35), (⟨2, 3, false⟩ : S35)] : List (S35)))).bind fun t229 => (if t229 = true then ((stickfullaw14_lines.f k t188 4 (([(⟨0, 1, false⟩ : S35), (⟨1, 2, false⟩ : S35), (⟨2, 3, false⟩ : S35)] : List (S35)))).bind fun t233 => (if t233 = true then ((stickfullaw14_lines.f k t197 4 (([(⟨0, 3, false⟩ : S35)] : List (S35)))).bind fun t237 => (if t237 = true then ((stickfullaw14_lines.f k t203 99 (([(⟨0, 2, true⟩ : S35), (⟨2, 4, true⟩ : S35), (⟨4, 4, false⟩ : S35)] : List (S35)))).bind fun t241 => (if t241 = true then ((stickfullaw14_lines.f k ([] : List (S44)) 0 (([(⟨0, 0, false⟩ : S35)] : List (S35)))).bind fun t245 => (if t245 = true then (if t212 = 2 then (some (t217 == 2)) else (some false)) else (some false))) else (some false))) else (some false))) else (some false))) else (some false))) else (some false))) else (some false))) else (some false))) else (some false)) = some r := H
  have A7 := Aside0.mk A70
  clear A70
  by_cases c8 : t219 = true
  · subst c8
    have H1 : ((stickfullaw14_lines.f k t179 10 y206).bind fun t220 => (if t220 = true then ((stickfullaw14_lines.f k t179 9 y206).bind fun t221 => (if t221 = true then ((stickfullaw14_lines.f k t179 25 (([(⟨0, 5, false⟩ : S35)] : List (S35)))).bind fun t225 => (if t225 = true then ((stickfullaw14_lines.f k t188 12 (([(⟨0, 2, false⟩ : S35), (⟨2, 3, false⟩ : S35)] : List (S35)))).bind fun t229 => (if t229 = true then ((stickfullaw14_lines.f k t188 4 (([(⟨0, 1, false⟩ : S35), (⟨1, 2, false⟩ : S35), (⟨2, 3, false⟩ : S35)] : List (S35)))).bind fun t233 => (if t233 = true then ((stickfullaw14_lines.f k t197 4 (([(⟨0, 3, false⟩ : S35)] : List (S35)))).bind fun t237 => (if t237 = true then ((stickfullaw14_lines.f k t203 99 (([(⟨0, 2, true⟩ : S35), (⟨2, 4, true⟩ : S35), (⟨4, 4, false⟩ : S35)] : List (S35)))).bind fun t241 => (if t241 = true then ((stickfullaw14_lines.f k ([] : List (S44)) 0 (([(⟨0, 0, false⟩ : S35)] : List (S35)))).bind fun t245 => (if t245 = true then (if t212 = 2 then (some (t217 == 2)) else (some false)) else (some false))) else (some false))) else (some false))) else (some false))) else (some false))) else (some false))) else (some false))) else (some false))) = some r := by rw [if_pos rfl] at H; exact H
    clear H
    have H := H1
    clear H1
    replace H := Option.bind_eq_some_iff.mp H
    obtain ⟨t220, A90, H⟩ := H
    replace H : (if t220 = true then ((stickfullaw14_lines.f k t179 9 y206).bind fun t221 => (if t221 = true then ((stickfullaw14_lines.f k t179 25 (([(⟨0, 5, false⟩ : S35)] : List (S35)))).bind fun t225 => (if t225 = true then ((stickfullaw14_lines.f k t188 12 (([(⟨0, 2, false⟩ : S35), (⟨2, 3, false⟩ : S35)] : List (S35)))).bind fun t229 => (if t229 = true then ((stickfullaw14_lines.f k t188 4 (([(⟨0, 1, false⟩ : S35), (⟨1, 2, false⟩ : S35), (⟨2, 3, false⟩ : S35)] : List (S35)))).bind fun t233 => (if t233 = true then ((stickfullaw14_lines.f k t197 4 (([(⟨0, 3, false⟩ : S35)] : List (S35)))).bind fun t237 => (if t237 = true then ((stickfullaw14_lines.f k t203 99 (([(⟨0, 2, true⟩ : S35), (⟨2, 4, true⟩ : S35), (⟨4, 4, false⟩ : S35)] : List (S35)))).bind fun t241 => (if t241 = true then ((stickfullaw14_lines.f k ([] : List (S44)) 0 (([(⟨0, 0, false⟩ : S35)] : List (S35)))).bind fun t245 => (if t245 = true then (if t212 = 2 then (some (t217 == 2)) else (some false)) else (some false))) else (some false))) else (some false))) else (some false))) else (some false))) else (some false))) else (some false))) else (some false)) = some r := H
    have A9 := Aside0.mk A90
    clear A90
    by_cases c10 : t220 = true
    · subst c10
      have H1 : ((stickfullaw14_lines.f k t179 9 y206).bind fun t221 => (if t221 = true then ((stickfullaw14_lines.f k t179 25 (([(⟨0, 5, false⟩ : S35)] : List (S35)))).bind fun t225 => (if t225 = true then ((stickfullaw14_lines.f k t188 12 (([(⟨0, 2, false⟩ : S35), (⟨2, 3, false⟩ : S35)] : List (S35)))).bind fun t229 => (if t229 = true then ((stickfullaw14_lines.f k t188 4 (([(⟨0, 1, false⟩ : S35), (⟨1, 2, false⟩ : S35), (⟨2, 3, false⟩ : S35)] : List (S35)))).bind fun t233 => (if t233 = true then ((stickfullaw14_lines.f k t197 4 (([(⟨0, 3, false⟩ : S35)] : List (S35)))).bind fun t237 => (if t237 = true then ((stickfullaw14_lines.f k t203 99 (([(⟨0, 2, true⟩ : S35), (⟨2, 4, true⟩ : S35), (⟨4, 4, false⟩ : S35)] : List (S35)))).bind fun t241 => (if t241 = true then ((stickfullaw14_lines.f k ([] : List (S44)) 0 (([(⟨0, 0, false⟩ : S35)] : List (S35)))).bind fun t245 => (if t245 = true then (if t212 = 2 then (some (t217 == 2)) else (some false)) else (some false))) else (some false))) else (some false))) else (some false))) else (some false))) else (some false))) else (some false))) = some r := by rw [if_pos rfl] at H; exact H
      clear H
      have H := H1
      clear H1
      replace H := Option.bind_eq_some_iff.mp H
      obtain ⟨t221, A110, H⟩ := H
      replace H : (if t221 = true then ((stickfullaw14_lines.f k t179 25 (([(⟨0, 5, false⟩ : S35)] : List (S35)))).bind fun t225 => (if t225 = true then ((stickfullaw14_lines.f k t188 12 (([(⟨0, 2, false⟩ : S35), (⟨2, 3, false⟩ : S35)] : List (S35)))).bind fun t229 => (if t229 = true then ((stickfullaw14_lines.f k t188 4 (([(⟨0, 1, false⟩ : S35), (⟨1, 2, false⟩ : S35), (⟨2, 3, false⟩ : S35)] : List (S35)))).bind fun t233 => (if t233 = true then ((stickfullaw14_lines.f k t197 4 (([(⟨0, 3, false⟩ : S35)] : List (S35)))).bind fun t237 => (if t237 = true then ((stickfullaw14_lines.f k t203 99 (([(⟨0, 2, true⟩ : S35), (⟨2, 4, true⟩ : S35), (⟨4, 4, false⟩ : S35)] : List (S35)))).bind fun t241 => (if t241 = true then ((stickfullaw14_lines.f k ([] : List (S44)) 0 (([(⟨0, 0, false⟩ : S35)] : List (S35)))).bind fun t245 => (if t245 = true then (if t212 = 2 then (some (t217 == 2)) else (some false)) else (some false))) else (some false))) else (some false))) else (some false))) else (some false))) else (some false))) else (some false)) = some r := H
      have A11 := Aside0.mk A110
      clear A110
      by_cases c12 : t221 = true
      · subst c12
        have H1 : ((stickfullaw14_lines.f k t179 25 (([(⟨0, 5, false⟩ : S35)] : List (S35)))).bind fun t225 => (if t225 = true then ((stickfullaw14_lines.f k t188 12 (([(⟨0, 2, false⟩ : S35), (⟨2, 3, false⟩ : S35)] : List (S35)))).bind fun t229 => (if t229 = true then ((stickfullaw14_lines.f k t188 4 (([(⟨0, 1, false⟩ : S35), (⟨1, 2, false⟩ : S35), (⟨2, 3, false⟩ : S35)] : List (S35)))).bind fun t233 => (if t233 = true then ((stickfullaw14_lines.f k t197 4 (([(⟨0, 3, false⟩ : S35)] : List (S35)))).bind fun t237 => (if t237 = true then ((stickfullaw14_lines.f k t203 99 (([(⟨0, 2, true⟩ : S35), (⟨2, 4, true⟩ : S35), (⟨4, 4, false⟩ : S35)] : List (S35)))).bind fun t241 => (if t241 = true then ((stickfullaw14_lines.f k ([] : List (S44)) 0 (([(⟨0, 0, false⟩ : S35)] : List (S35)))).bind fun t245 => (if t245 = true then (if t212 = 2 then (some (t217 == 2)) else (some false)) else (some false))) else (some false))) else (some false))) else (some false))) else (some false))) else (some false))) = some r := by rw [if_pos rfl] at H; exact H
        clear H
        have H := H1
        clear H1
        obtain ⟨y222, hy222⟩ : ∃ y_ : List (S35), y_ = (([(⟨0, 5, false⟩ : S35)] : List (S35))) := ⟨_, rfl⟩
        replace H : ((stickfullaw14_lines.f k t179 25 y222).bind fun t225 => (if t225 = true then ((stickfullaw14_lines.f k t188 12 (([(⟨0, 2, false⟩ : S35), (⟨2, 3, false⟩ : S35)] : List (S35)))).bind fun t229 => (if t229 = true then ((stickfullaw14_lines.f k t188 4 (([(⟨0, 1, false⟩ : S35), (⟨1, 2, false⟩ : S35), (⟨2, 3, false⟩ : S35)] : List (S35)))).bind fun t233 => (if t233 = true then ((stickfullaw14_lines.f k t197 4 (([(⟨0, 3, false⟩ : S35)] : List (S35)))).bind fun t237 => (if t237 = true then ((stickfullaw14_lines.f k t203 99 (([(⟨0, 2, true⟩ : S35), (⟨2, 4, true⟩ : S35), (⟨4, 4, false⟩ : S35)] : List (S35)))).bind fun t241 => (if t241 = true then ((stickfullaw14_lines.f k ([] : List (S44)) 0 (([(⟨0, 0, false⟩ : S35)] : List (S35)))).bind fun t245 => (if t245 = true then (if t212 = 2 then (some (t217 == 2)) else (some false)) else (some false))) else (some false))) else (some false))) else (some false))) else (some false))) else (some false))) = some r := by first | (rw [hy222]; with_reducible exact H) | (have H2_ := (Option.bind_some _ _).symm.trans H; rw [hy222]; with_reducible exact H2_) | (have H2_ := (Option.bind_some _ _).symm.trans H; with_reducible exact H2_) | with_reducible exact H | (rw [hy222]; exact H) | exact H
        have Ny222 := Aside0.mk hy222
        clear hy222
        replace H := Option.bind_eq_some_iff.mp H
        obtain ⟨t225, A130, H⟩ := H
        replace H : (if t225 = true then ((stickfullaw14_lines.f k t188 12 (([(⟨0, 2, false⟩ : S35), (⟨2, 3, false⟩ : S35)] : List (S35)))).bind fun t229 => (if t229 = true then ((stickfullaw14_lines.f k t188 4 (([(⟨0, 1, false⟩ : S35), (⟨1, 2, false⟩ : S35), (⟨2, 3, false⟩ : S35)] : List (S35)))).bind fun t233 => (if t233 = true then ((stickfullaw14_lines.f k t197 4 (([(⟨0, 3, false⟩ : S35)] : List (S35)))).bind fun t237 => (if t237 = true then ((stickfullaw14_lines.f k t203 99 (([(⟨0, 2, true⟩ : S35), (⟨2, 4, true⟩ : S35), (⟨4, 4, false⟩ : S35)] : List (S35)))).bind fun t241 => (if t241 = true then ((stickfullaw14_lines.f k ([] : List (S44)) 0 (([(⟨0, 0, false⟩ : S35)] : List (S35)))).bind fun t245 => (if t245 = true then (if t212 = 2 then (some (t217 == 2)) else (some false)) else (some false))) else (some false))) else (some false))) else (some false))) else (some false))) else (some false)) = some r := H
        have A13 := Aside0.mk A130
        clear A130
        by_cases c14 : t225 = true
        · subst c14
          have H1 : ((stickfullaw14_lines.f k t188 12 (([(⟨0, 2, false⟩ : S35), (⟨2, 3, false⟩ : S35)] : List (S35)))).bind fun t229 => (if t229 = true then ((stickfullaw14_lines.f k t188 4 (([(⟨0, 1, false⟩ : S35), (⟨1, 2, false⟩ : S35), (⟨2, 3, false⟩ : S35)] : List (S35)))).bind fun t233 => (if t233 = true then ((stickfullaw14_lines.f k t197 4 (([(⟨0, 3, false⟩ : S35)] : List (S35)))).bind fun t237 => (if t237 = true then ((stickfullaw14_lines.f k t203 99 (([(⟨0, 2, true⟩ : S35), (⟨2, 4, true⟩ : S35), (⟨4, 4, false⟩ : S35)] : List (S35)))).bind fun t241 => (if t241 = true then ((stickfullaw14_lines.f k ([] : List (S44)) 0 (([(⟨0, 0, false⟩ : S35)] : List (S35)))).bind fun t245 => (if t245 = true then (if t212 = 2 then (some (t217 == 2)) else (some false)) else (some false))) else (some false))) else (some false))) else (some false))) else (some false))) = some r := by rw [if_pos rfl] at H; exact H
          clear H
          have H := H1
          clear H1
          obtain ⟨y226, hy226⟩ : ∃ y_ : List (S35), y_ = (([(⟨0, 2, false⟩ : S35), (⟨2, 3, false⟩ : S35)] : List (S35))) := ⟨_, rfl⟩
          replace H : ((stickfullaw14_lines.f k t188 12 y226).bind fun t229 => (if t229 = true then ((stickfullaw14_lines.f k t188 4 (([(⟨0, 1, false⟩ : S35), (⟨1, 2, false⟩ : S35), (⟨2, 3, false⟩ : S35)] : List (S35)))).bind fun t233 => (if t233 = true then ((stickfullaw14_lines.f k t197 4 (([(⟨0, 3, false⟩ : S35)] : List (S35)))).bind fun t237 => (if t237 = true then ((stickfullaw14_lines.f k t203 99 (([(⟨0, 2, true⟩ : S35), (⟨2, 4, true⟩ : S35), (⟨4, 4, false⟩ : S35)] : List (S35)))).bind fun t241 => (if t241 = true then ((stickfullaw14_lines.f k ([] : List (S44)) 0 (([(⟨0, 0, false⟩ : S35)] : List (S35)))).bind fun t245 => (if t245 = true then (if t212 = 2 then (some (t217 == 2)) else (some false)) else (some false))) else (some false))) else (some false))) else (some false))) else (some false))) = some r := by first | (rw [hy226]; with_reducible exact H) | (have H2_ := (Option.bind_some _ _).symm.trans H; rw [hy226]; with_reducible exact H2_) | (have H2_ := (Option.bind_some _ _).symm.trans H; with_reducible exact H2_) | with_reducible exact H | (rw [hy226]; exact H) | exact H
          have Ny226 := Aside0.mk hy226
          clear hy226
          replace H := Option.bind_eq_some_iff.mp H
          obtain ⟨t229, A150, H⟩ := H
          replace H : (if t229 = true then ((stickfullaw14_lines.f k t188 4 (([(⟨0, 1, false⟩ : S35), (⟨1, 2, false⟩ : S35), (⟨2, 3, false⟩ : S35)] : List (S35)))).bind fun t233 => (if t233 = true then ((stickfullaw14_lines.f k t197 4 (([(⟨0, 3, false⟩ : S35)] : List (S35)))).bind fun t237 => (if t237 = true then ((stickfullaw14_lines.f k t203 99 (([(⟨0, 2, true⟩ : S35), (⟨2, 4, true⟩ : S35), (⟨4, 4, false⟩ : S35)] : List (S35)))).bind fun t241 => (if t241 = true then ((stickfullaw14_lines.f k ([] : List (S44)) 0 (([(⟨0, 0, false⟩ : S35)] : List (S35)))).bind fun t245 => (if t245 = true then (if t212 = 2 then (some (t217 == 2)) else (some false)) else (some false))) else (some false))) else (some false))) else (some false))) else (some false)) = some r := H
          have A15 := Aside0.mk A150
          clear A150
          by_cases c16 : t229 = true
          · subst c16
            have H1 : ((stickfullaw14_lines.f k t188 4 (([(⟨0, 1, false⟩ : S35), (⟨1, 2, false⟩ : S35), (⟨2, 3, false⟩ : S35)] : List (S35)))).bind fun t233 => (if t233 = true then ((stickfullaw14_lines.f k t197 4 (([(⟨0, 3, false⟩ : S35)] : List (S35)))).bind fun t237 => (if t237 = true then ((stickfullaw14_lines.f k t203 99 (([(⟨0, 2, true⟩ : S35), (⟨2, 4, true⟩ : S35), (⟨4, 4, false⟩ : S35)] : List (S35)))).bind fun t241 => (if t241 = true then ((stickfullaw14_lines.f k ([] : List (S44)) 0 (([(⟨0, 0, false⟩ : S35)] : List (S35)))).bind fun t245 => (if t245 = true then (if t212 = 2 then (some (t217 == 2)) else (some false)) else (some false))) else (some false))) else (some false))) else (some false))) = some r := by rw [if_pos rfl] at H; exact H
            clear H
            have H := H1
            clear H1
            obtain ⟨y230, hy230⟩ : ∃ y_ : List (S35), y_ = (([(⟨0, 1, false⟩ : S35), (⟨1, 2, false⟩ : S35), (⟨2, 3, false⟩ : S35)] : List (S35))) := ⟨_, rfl⟩
            replace H : ((stickfullaw14_lines.f k t188 4 y230).bind fun t233 => (if t233 = true then ((stickfullaw14_lines.f k t197 4 (([(⟨0, 3, false⟩ : S35)] : List (S35)))).bind fun t237 => (if t237 = true then ((stickfullaw14_lines.f k t203 99 (([(⟨0, 2, true⟩ : S35), (⟨2, 4, true⟩ : S35), (⟨4, 4, false⟩ : S35)] : List (S35)))).bind fun t241 => (if t241 = true then ((stickfullaw14_lines.f k ([] : List (S44)) 0 (([(⟨0, 0, false⟩ : S35)] : List (S35)))).bind fun t245 => (if t245 = true then (if t212 = 2 then (some (t217 == 2)) else (some false)) else (some false))) else (some false))) else (some false))) else (some false))) = some r := by first | (rw [hy230]; with_reducible exact H) | (have H2_ := (Option.bind_some _ _).symm.trans H; rw [hy230]; with_reducible exact H2_) | (have H2_ := (Option.bind_some _ _).symm.trans H; with_reducible exact H2_) | with_reducible exact H | (rw [hy230]; exact H) | exact H
            have Ny230 := Aside0.mk hy230
            clear hy230
            replace H := Option.bind_eq_some_iff.mp H
            obtain ⟨t233, A170, H⟩ := H
            replace H : (if t233 = true then ((stickfullaw14_lines.f k t197 4 (([(⟨0, 3, false⟩ : S35)] : List (S35)))).bind fun t237 => (if t237 = true then ((stickfullaw14_lines.f k t203 99 (([(⟨0, 2, true⟩ : S35), (⟨2, 4, true⟩ : S35), (⟨4, 4, false⟩ : S35)] : List (S35)))).bind fun t241 => (if t241 = true then ((stickfullaw14_lines.f k ([] : List (S44)) 0 (([(⟨0, 0, false⟩ : S35)] : List (S35)))).bind fun t245 => (if t245 = true then (if t212 = 2 then (some (t217 == 2)) else (some false)) else (some false))) else (some false))) else (some false))) else (some false)) = some r := H
            have A17 := Aside0.mk A170
            clear A170
            by_cases c18 : t233 = true
            · subst c18
              have H1 : ((stickfullaw14_lines.f k t197 4 (([(⟨0, 3, false⟩ : S35)] : List (S35)))).bind fun t237 => (if t237 = true then ((stickfullaw14_lines.f k t203 99 (([(⟨0, 2, true⟩ : S35), (⟨2, 4, true⟩ : S35), (⟨4, 4, false⟩ : S35)] : List (S35)))).bind fun t241 => (if t241 = true then ((stickfullaw14_lines.f k ([] : List (S44)) 0 (([(⟨0, 0, false⟩ : S35)] : List (S35)))).bind fun t245 => (if t245 = true then (if t212 = 2 then (some (t217 == 2)) else (some false)) else (some false))) else (some false))) else (some false))) = some r := by rw [if_pos rfl] at H; exact H
              clear H
              have H := H1
              clear H1
              obtain ⟨y234, hy234⟩ : ∃ y_ : List (S35), y_ = (([(⟨0, 3, false⟩ : S35)] : List (S35))) := ⟨_, rfl⟩
              replace H : ((stickfullaw14_lines.f k t197 4 y234).bind fun t237 => (if t237 = true then ((stickfullaw14_lines.f k t203 99 (([(⟨0, 2, true⟩ : S35), (⟨2, 4, true⟩ : S35), (⟨4, 4, false⟩ : S35)] : List (S35)))).bind fun t241 => (if t241 = true then ((stickfullaw14_lines.f k ([] : List (S44)) 0 (([(⟨0, 0, false⟩ : S35)] : List (S35)))).bind fun t245 => (if t245 = true then (if t212 = 2 then (some (t217 == 2)) else (some false)) else (some false))) else (some false))) else (some false))) = some r := by first | (rw [hy234]; with_reducible exact H) | (have H2_ := (Option.bind_some _ _).symm.trans H; rw [hy234]; with_reducible exact H2_) | (have H2_ := (Option.bind_some _ _).symm.trans H; with_reducible exact H2_) | with_reducible exact H | (rw [hy234]; exact H) | exact H
              have Ny234 := Aside0.mk hy234
              clear hy234
              replace H := Option.bind_eq_some_iff.mp H
              obtain ⟨t237, A190, H⟩ := H
              replace H : (if t237 = true then ((stickfullaw14_lines.f k t203 99 (([(⟨0, 2, true⟩ : S35), (⟨2, 4, true⟩ : S35), (⟨4, 4, false⟩ : S35)] : List (S35)))).bind fun t241 => (if t241 = true then ((stickfullaw14_lines.f k ([] : List (S44)) 0 (([(⟨0, 0, false⟩ : S35)] : List (S35)))).bind fun t245 => (if t245 = true then (if t212 = 2 then (some (t217 == 2)) else (some false)) else (some false))) else (some false))) else (some false)) = some r := H
              have A19 := Aside0.mk A190
              clear A190
              by_cases c20 : t237 = true
              · subst c20
                have H1 : ((stickfullaw14_lines.f k t203 99 (([(⟨0, 2, true⟩ : S35), (⟨2, 4, true⟩ : S35), (⟨4, 4, false⟩ : S35)] : List (S35)))).bind fun t241 => (if t241 = true then ((stickfullaw14_lines.f k ([] : List (S44)) 0 (([(⟨0, 0, false⟩ : S35)] : List (S35)))).bind fun t245 => (if t245 = true then (if t212 = 2 then (some (t217 == 2)) else (some false)) else (some false))) else (some false))) = some r := by rw [if_pos rfl] at H; exact H
                clear H
                have H := H1
                clear H1
                obtain ⟨y238, hy238⟩ : ∃ y_ : List (S35), y_ = (([(⟨0, 2, true⟩ : S35), (⟨2, 4, true⟩ : S35), (⟨4, 4, false⟩ : S35)] : List (S35))) := ⟨_, rfl⟩
                replace H : ((stickfullaw14_lines.f k t203 99 y238).bind fun t241 => (if t241 = true then ((stickfullaw14_lines.f k ([] : List (S44)) 0 (([(⟨0, 0, false⟩ : S35)] : List (S35)))).bind fun t245 => (if t245 = true then (if t212 = 2 then (some (t217 == 2)) else (some false)) else (some false))) else (some false))) = some r := by first | (rw [hy238]; with_reducible exact H) | (have H2_ := (Option.bind_some _ _).symm.trans H; rw [hy238]; with_reducible exact H2_) | (have H2_ := (Option.bind_some _ _).symm.trans H; with_reducible exact H2_) | with_reducible exact H | (rw [hy238]; exact H) | exact H
                have Ny238 := Aside0.mk hy238
                clear hy238
                replace H := Option.bind_eq_some_iff.mp H
                obtain ⟨t241, A210, H⟩ := H
                replace H : (if t241 = true then ((stickfullaw14_lines.f k ([] : List (S44)) 0 (([(⟨0, 0, false⟩ : S35)] : List (S35)))).bind fun t245 => (if t245 = true then (if t212 = 2 then (some (t217 == 2)) else (some false)) else (some false))) else (some false)) = some r := H
                have A21 := Aside0.mk A210
                clear A210
                by_cases c22 : t241 = true
                · subst c22
                  have H1 : ((stickfullaw14_lines.f k ([] : List (S44)) 0 (([(⟨0, 0, false⟩ : S35)] : List (S35)))).bind fun t245 => (if t245 = true then (if t212 = 2 then (some (t217 == 2)) else (some false)) else (some false))) = some r := by rw [if_pos rfl] at H; exact H
                  clear H
                  have H := H1
                  clear H1
                  obtain ⟨y242, hy242⟩ : ∃ y_ : List (S35), y_ = (([(⟨0, 0, false⟩ : S35)] : List (S35))) := ⟨_, rfl⟩
                  replace H : ((stickfullaw14_lines.f k ([] : List (S44)) 0 y242).bind fun t245 => (if t245 = true then (if t212 = 2 then (some (t217 == 2)) else (some false)) else (some false))) = some r := by first | (rw [hy242]; with_reducible exact H) | (have H2_ := (Option.bind_some _ _).symm.trans H; rw [hy242]; with_reducible exact H2_) | (have H2_ := (Option.bind_some _ _).symm.trans H; with_reducible exact H2_) | with_reducible exact H | (rw [hy242]; exact H) | exact H
                  have Ny242 := Aside0.mk hy242
                  clear hy242
                  replace H := Option.bind_eq_some_iff.mp H
                  obtain ⟨t245, A230, H⟩ := H
                  replace H : (if t245 = true then (if t212 = 2 then (some (t217 == 2)) else (some false)) else (some false)) = some r := H
                  have A23 := Aside0.mk A230
                  clear A230
                  by_cases c24 : t245 = true
                  · subst c24
                    have H1 : (if t212 = 2 then (some (t217 == 2)) else (some false)) = some r := by rw [if_pos rfl] at H; exact H
                    clear H
                    have H := H1
                    clear H1
                    by_cases c25 : t212 = 2
                    · rw [if_pos c25] at H
                      have c25b0 : (t212 == 2) = true := beq_iff_eq.mpr c25
                      have c25b1 : (t212 != 2) = false := bne_eq_false_iff_eq.mpr c25
                      clear c25
                      obtain rfl := Option.some.inj H
                      go_enter Try.func8, Try.ntmps8
                      go_wp2_with (first | ((with_reducible refine gate_dst (N := 10) rfl ?_); (try (refine gate_guard (by rfl) ?_; dsimp only)); refine Kd.R_lit (Kd.int .u8) _ 5 ?hg (N := 10) ?hd (xs := ([0, 0, 1, 0, 0] : List Int)) (inner := [.int .u8 0, .int .u8 0, .int .u8 1, .int .u8 0, .int .u8 0]) (ok := fun _ => True) (okp := fun _ => True) ?hr ?hp (fun _ hk => hk) trivial (Below.refl _ _) (Nat.le_refl _) (by simp) ?_; (case hd => rfl); (case hg => rfl); (case hr => first | (go_simp; done) | (go_simp; rfl)); (case hp => exact (Reps.one (show Kd.M (Kd.int .u8) _ _ _ 0 [.int .u8 0] from rfl) (Reps.one (show Kd.M (Kd.int .u8) _ _ _ 0 [.int .u8 0] from rfl) (Reps.one (show Kd.M (Kd.int .u8) _ _ _ 1 [.int .u8 1] from rfl) (Reps.one (show Kd.M (Kd.int .u8) _ _ _ 0 [.int .u8 0] from rfl) (Reps.one (show Kd.M (Kd.int .u8) _ _ _ 0 [.int .u8 0] from rfl) (Reps.none _ _))))))); intro v174 w26 ho27 hb hg_ hnew_; clear hg_ hnew_; (first | rw [← Ny173.out] at ho27 | (simp only [Int.reduceToNat] at ho27; rw [← Ny173.out] at ho27)); have HO175 := Aside0.mk (Kd.R_lower ho27 (below_size (bw HB))); replace HB := bh HB hb; clear hb ho27) | ((with_reducible refine gate_dst (N := 11) rfl ?_); (try (refine gate_guard (by rfl) ?_; dsimp only)); refine Kd.R_lit (Kd.int .i64) _ 3 ?hg (N := 11) ?hd (xs := ([3] : List Int)) (inner := [.int .i64 3]) (ok := fun _ => True) (okp := fun _ => True) ?hr ?hp (fun _ hk => hk) trivial (Below.refl _ _) (Nat.le_refl _) (by simp) ?_; (case hd => rfl); (case hg => rfl); (case hr => first | (go_simp; done) | (go_simp; rfl)); (case hp => exact (Reps.one (show Kd.M (Kd.int .i64) _ _ _ 3 [.int .i64 3] from rfl) (Reps.none _ _))); intro v177 w28 ho29 hb hg_ hnew_; clear hg_ hnew_; (first | rw [← Ny176.out] at ho29 | (simp only [Int.reduceToNat] at ho29; rw [← Ny176.out] at ho29)); replace HO175 := Aside0.mk (Kd.R_below (rx HO175) hb); have HO178 := Aside0.mk (Kd.R_lower ho29 (below_size (bw HB))); replace HB := bh HB hb; clear hb ho29; obtain ⟨Ao30, co30, eo30⟩ := Kd.R_slice HO175.out; subst eo30; obtain ⟨Ao31, co31, eo31⟩ := Kd.R_slice HO178.out; subst eo31) | ((with_reducible refine gate_callee (f := 17) rfl ?_); refine goesB (some 12) rfl rfl Try.func17 #[.slice Ao30 y173.length co30, .slice Ao31 y176.length co31, .slice none 0 0] rfl ?_; (refine (stickfullaw14_row.calls k _ _ y173 _ _ y176 _ _ ([] : List Int) t179 _ ?side1 ?side2 ?side3 ?side4 ?side5 ?side6 A1.out).mono ?_); (case side1 => repeat (first | exact (Kd.R_reads' HO175.out).2.2 | (with_reducible refine Kd.C_alloc ?_ _) | (with_reducible refine Kd.C_drewN ?_ _) | (with_reducible refine Kd.C_drew ?_))); (case side2 => exact (Kd.R_reads' HO175.out).2.1); (case side3 => repeat (first | exact (Kd.R_reads' HO178.out).2.2 | (with_reducible refine Kd.C_alloc ?_ _) | (with_reducible refine Kd.C_drewN ?_ _) | (with_reducible refine Kd.C_drew ?_))); (case side4 => exact (Kd.R_reads' HO178.out).2.1); (case side5 => exact Kd.C_nil _ _); (case side6 => exact Nat.le_refl _); rintro e w32 ⟨v180, rfl, ho0, hb⟩; refine ⟨_, rfl, ?_⟩; replace HO175 := Aside0.mk (Kd.R_below (rx HO175) hb); replace HO178 := Aside0.mk (Kd.R_below (rx HO178) hb); have HO181 := Aside0.mk (Kd.R_lower ho0 (below_size (bw HB))); replace HB := bh HB hb; (try clear hb); (try clear hb2); (try clear hk); (try clear hi); (try clear ho0); (try clear A1)) | ((with_reducible refine gate_dst (N := 13) rfl ?_); (try (refine gate_guard (by rfl) ?_; dsimp only)); refine Kd.R_lit (Kd.int .u8) _ 5 ?hg (N := 13) ?hd (xs := ([0, 0, 0] : List Int)) (inner := [.int .u8 0, .int .u8 0, .int .u8 0]) (ok := fun _ => True) (okp := fun _ => True) ?hr ?hp (fun _ hk => hk) trivial (Below.refl _ _) (Nat.le_refl _) (by simp) ?_; (case hd => rfl); (case hg => rfl); (case hr => first | (go_simp; done) | (go_simp; rfl)); (case hp => exact (Reps.one (show Kd.M (Kd.int .u8) _ _ _ 0 [.int .u8 0] from rfl) (Reps.one (show Kd.M (Kd.int .u8) _ _ _ 0 [.int .u8 0] from rfl) (Reps.one (show Kd.M (Kd.int .u8) _ _ _ 0 [.int .u8 0] from rfl) (Reps.none _ _))))); intro v183 w33 ho34 hb hg_ hnew_; clear hg_ hnew_; (first | rw [← Ny182.out] at ho34 | (simp only [Int.reduceToNat] at ho34; rw [← Ny182.out] at ho34)); replace HO178 := Aside0.mk (Kd.R_below (rx HO178) hb); replace HO181 := Aside0.mk (Kd.R_below (rx HO181) hb); have HO184 := Aside0.mk (Kd.R_lower (Kd.R_new' ho34 (Kd.R_lt (rx HO175))) (below_size (bw HB))); replace HO175 := Aside0.mk (Kd.R_elder' (rx HO175) (Kd.R_base ho34) hb); replace HB := bh HB hb; clear hb ho34) | ((with_reducible refine gate_dst (N := 14) rfl ?_); (try (refine gate_guard (by rfl) ?_; dsimp only)); refine Kd.R_lit (Kd.int .i64) _ 3 ?hg (N := 14) ?hd (xs := ([1, 2] : List Int)) (inner := [.int .i64 1, .int .i64 2]) (ok := fun _ => True) (okp := fun _ => True) ?hr ?hp (fun _ hk => hk) trivial (Below.refl _ _) (Nat.le_refl _) (by simp) ?_; (case hd => rfl); (case hg => rfl); (case hr => first | (go_simp; done) | (go_simp; rfl)); (case hp => exact (Reps.one (show Kd.M (Kd.int .i64) _ _ _ 1 [.int .i64 1] from rfl) (Reps.one (show Kd.M (Kd.int .i64) _ _ _ 2 [.int .i64 2] from rfl) (Reps.none _ _)))); intro v186 w35 ho36 hb hg_ hnew_; clear hg_ hnew_; (first | rw [← Ny185.out] at ho36 | (simp only [Int.reduceToNat] at ho36; rw [← Ny185.out] at ho36)); replace HO175 := Aside0.mk (Kd.R_below (rx HO175) hb); replace HO181 := Aside0.mk (Kd.R_below (rx HO181) hb); replace HO184 := Aside0.mk (Kd.R_below (rx HO184) hb); have HO187 := Aside0.mk (Kd.R_lower (Kd.R_new' ho36 (Kd.R_lt (rx HO178))) (below_size (bw HB))); replace HO178 := Aside0.mk (Kd.R_elder' (rx HO178) (Kd.R_base ho36) hb); replace HB := bh HB hb; clear hb ho36; obtain ⟨Ao37, co37, eo37⟩ := Kd.R_slice HO184.out; subst eo37; obtain ⟨Ao38, co38, eo38⟩ := Kd.R_slice HO187.out; subst eo38) | ((with_reducible refine gate_callee (f := 17) rfl ?_); refine goesB (some 15) rfl rfl Try.func17 #[.slice Ao37 y182.length co37, .slice none 0 0, .slice Ao38 y185.length co38] rfl ?_; (refine (stickfullaw14_row.calls k _ _ y182 _ _ ([] : List Int) _ _ y185 t188 _ ?side1 ?side2 ?side3 ?side4 ?side5 ?side6 A2.out).mono ?_); (case side1 => repeat (first | exact (Kd.R_reads' HO184.out).2.2 | (with_reducible refine Kd.C_alloc ?_ _) | (with_reducible refine Kd.C_drewN ?_ _) | (with_reducible refine Kd.C_drew ?_))); (case side2 => exact (Kd.R_reads' HO184.out).2.1); (case side3 => exact Kd.C_nil _ _); (case side4 => exact Nat.le_refl _); (case side5 => repeat (first | exact (Kd.R_reads' HO187.out).2.2 | (with_reducible refine Kd.C_alloc ?_ _) | (with_reducible refine Kd.C_drewN ?_ _) | (with_reducible refine Kd.C_drew ?_))); (case side6 => exact (Kd.R_reads' HO187.out).2.1); rintro e w39 ⟨v189, rfl, ho0, hb⟩; refine ⟨_, rfl, ?_⟩; replace HO175 := Aside0.mk (Kd.R_below (rx HO175) hb); replace HO178 := Aside0.mk (Kd.R_below (rx HO178) hb); replace HO184 := Aside0.mk (Kd.R_below (rx HO184) hb); replace HO187 := Aside0.mk (Kd.R_below (rx HO187) hb); have HO190 := Aside0.mk (Kd.R_lower (Kd.R_new' ho0 (Kd.R_lt (rx HO181))) (below_size (bw HB))); replace HO181 := Aside0.mk (Kd.R_elder' (rx HO181) (Kd.R_base ho0) hb); replace HB := bh HB hb; (try clear hb); (try clear hb2); (try clear hk); (try clear hi); (try clear ho0); (try clear A2)) | ((with_reducible refine gate_dst (N := 16) rfl ?_); (try (refine gate_guard (by rfl) ?_; dsimp only)); refine Kd.R_lit (Kd.int .u8) _ 5 ?hg (N := 16) ?hd (xs := ([1, 0, 0] : List Int)) (inner := [.int .u8 1, .int .u8 0, .int .u8 0]) (ok := fun _ => True) (okp := fun _ => True) ?hr ?hp (fun _ hk => hk) trivial (Below.refl _ _) (Nat.le_refl _) (by simp) ?_; (case hd => rfl); (case hg => rfl); (case hr => first | (go_simp; done) | (go_simp; rfl)); (case hp => exact (Reps.one (show Kd.M (Kd.int .u8) _ _ _ 1 [.int .u8 1] from rfl) (Reps.one (show Kd.M (Kd.int .u8) _ _ _ 0 [.int .u8 0] from rfl) (Reps.one (show Kd.M (Kd.int .u8) _ _ _ 0 [.int .u8 0] from rfl) (Reps.none _ _))))); intro v192 w40 ho41 hb hg_ hnew_; clear hg_ hnew_; (first | rw [← Ny191.out] at ho41 | (simp only [Int.reduceToNat] at ho41; rw [← Ny191.out] at ho41)); replace HO178 := Aside0.mk (Kd.R_below (rx HO178) hb); replace HO181 := Aside0.mk (Kd.R_below (rx HO181) hb); replace HO187 := Aside0.mk (Kd.R_below (rx HO187) hb); replace HO190 := Aside0.mk (Kd.R_below (rx HO190) hb); have HO193 := Aside0.mk (Kd.R_lower (Kd.R_new' (Kd.R_new' ho41 (Kd.R_lt (rx HO175))) (Kd.R_lt (rx HO184))) (below_size (bw HB))); replace HO175 := Aside0.mk (Kd.R_elder' (rx HO175) (Kd.R_base ho41) hb); replace HO184 := Aside0.mk (Kd.R_elder' (rx HO184) (Kd.R_base ho41) hb); replace HB := bh HB hb; clear hb ho41) | ((with_reducible refine gate_dst (N := 17) rfl ?_); (try (refine gate_guard (by rfl) ?_; dsimp only)); refine Kd.R_lit (Kd.int .i64) _ 3 ?hg (N := 17) ?hd (xs := ([1] : List Int)) (inner := [.int .i64 1]) (ok := fun _ => True) (okp := fun _ => True) ?hr ?hp (fun _ hk => hk) trivial (Below.refl _ _) (Nat.le_refl _) (by simp) ?_; (case hd => rfl); (case hg => rfl); (case hr => first | (go_simp; done) | (go_simp; rfl)); (case hp => exact (Reps.one (show Kd.M (Kd.int .i64) _ _ _ 1 [.int .i64 1] from rfl) (Reps.none _ _))); intro v195 w42 ho43 hb hg_ hnew_; clear hg_ hnew_; (first | rw [← Ny194.out] at ho43 | (simp only [Int.reduceToNat] at ho43; rw [← Ny194.out] at ho43)); replace HO175 := Aside0.mk (Kd.R_below (rx HO175) hb); replace HO181 := Aside0.mk (Kd.R_below (rx HO181) hb); replace HO184 := Aside0.mk (Kd.R_below (rx HO184) hb); replace HO190 := Aside0.mk (Kd.R_below (rx HO190) hb); replace HO193 := Aside0.mk (Kd.R_below (rx HO193) hb); have HO196 := Aside0.mk (Kd.R_lower (Kd.R_new' (Kd.R_new' ho43 (Kd.R_lt (rx HO178))) (Kd.R_lt (rx HO187))) (below_size (bw HB))); replace HO178 := Aside0.mk (Kd.R_elder' (rx HO178) (Kd.R_base ho43) hb); replace HO187 := Aside0.mk (Kd.R_elder' (rx HO187) (Kd.R_base ho43) hb); replace HB := bh HB hb; clear hb ho43; obtain ⟨Ao44, co44, eo44⟩ := Kd.R_slice HO193.out; subst eo44; obtain ⟨Ao45, co45, eo45⟩ := Kd.R_slice HO196.out; subst eo45) | ((with_reducible refine gate_callee (f := 17) rfl ?_); refine goesB (some 18) rfl rfl Try.func17 #[.slice Ao44 y191.length co44, .slice Ao45 y194.length co45, .slice none 0 0] rfl ?_; (refine (stickfullaw14_row.calls k _ _ y191 _ _ y194 _ _ ([] : List Int) t197 _ ?side1 ?side2 ?side3 ?side4 ?side5 ?side6 A3.out).mono ?_); (case side1 => repeat (first | exact (Kd.R_reads' HO193.out).2.2 | (with_reducible refine Kd.C_alloc ?_ _) | (with_reducible refine Kd.C_drewN ?_ _) | (with_reducible refine Kd.C_drew ?_))); (case side2 => exact (Kd.R_reads' HO193.out).2.1); (case side3 => repeat (first | exact (Kd.R_reads' HO196.out).2.2 | (with_reducible refine Kd.C_alloc ?_ _) | (with_reducible refine Kd.C_drewN ?_ _) | (with_reducible refine Kd.C_drew ?_))); (case side4 => exact (Kd.R_reads' HO196.out).2.1); (case side5 => exact Kd.C_nil _ _); (case side6 => exact Nat.le_refl _); rintro e w46 ⟨v198, rfl, ho0, hb⟩; refine ⟨_, rfl, ?_⟩; replace HO175 := Aside0.mk (Kd.R_below (rx HO175) hb); replace HO178 := Aside0.mk (Kd.R_below (rx HO178) hb); replace HO184 := Aside0.mk (Kd.R_below (rx HO184) hb); replace HO187 := Aside0.mk (Kd.R_below (rx HO187) hb); replace HO193 := Aside0.mk (Kd.R_below (rx HO193) hb); replace HO196 := Aside0.mk (Kd.R_below (rx HO196) hb); have HO199 := Aside0.mk (Kd.R_lower (Kd.R_new' (Kd.R_new' ho0 (Kd.R_lt (rx HO181))) (Kd.R_lt (rx HO190))) (below_size (bw HB))); replace HO181 := Aside0.mk (Kd.R_elder' (rx HO181) (Kd.R_base ho0) hb); replace HO190 := Aside0.mk (Kd.R_elder' (rx HO190) (Kd.R_base ho0) hb); replace HB := bh HB hb; (try clear hb); (try clear hb2); (try clear hk); (try clear hi); (try clear ho0); (try clear A3)) | ((with_reducible refine gate_dst (N := 19) rfl ?_); (try (refine gate_guard (by rfl) ?_; dsimp only)); refine Kd.R_lit (Kd.int .u8) _ 5 ?hg (N := 19) ?hd (xs := ([0, 5, 0, 5] : List Int)) (inner := [.int .u8 0, .int .u8 5, .int .u8 0, .int .u8 5]) (ok := fun _ => True) (okp := fun _ => True) ?hr ?hp (fun _ hk => hk) trivial (Below.refl _ _) (Nat.le_refl _) (by simp) ?_; (case hd => rfl); (case hg => rfl); (case hr => first | (go_simp; done) | (go_simp; rfl)); (case hp => exact (Reps.one (show Kd.M (Kd.int .u8) _ _ _ 0 [.int .u8 0] from rfl) (Reps.one (show Kd.M (Kd.int .u8) _ _ _ 5 [.int .u8 5] from rfl) (Reps.one (show Kd.M (Kd.int .u8) _ _ _ 0 [.int .u8 0] from rfl) (Reps.one (show Kd.M (Kd.int .u8) _ _ _ 5 [.int .u8 5] from rfl) (Reps.none _ _)))))); intro v201 w47 ho48 hb hg_ hnew_; clear hg_ hnew_; (first | rw [← Ny200.out] at ho48 | (simp only [Int.reduceToNat] at ho48; rw [← Ny200.out] at ho48)); replace HO178 := Aside0.mk (Kd.R_below (rx HO178) hb); replace HO181 := Aside0.mk (Kd.R_below (rx HO181) hb); replace HO187 := Aside0.mk (Kd.R_below (rx HO187) hb); replace HO190 := Aside0.mk (Kd.R_below (rx HO190) hb); replace HO196 := Aside0.mk (Kd.R_below (rx HO196) hb); replace HO199 := Aside0.mk (Kd.R_below (rx HO199) hb); have HO202 := Aside0.mk (Kd.R_lower (Kd.R_new' (Kd.R_new' (Kd.R_new' ho48 (Kd.R_lt (rx HO175))) (Kd.R_lt (rx HO184))) (Kd.R_lt (rx HO193))) (below_size (bw HB))); replace HO175 := Aside0.mk (Kd.R_elder' (rx HO175) (Kd.R_base ho48) hb); replace HO184 := Aside0.mk (Kd.R_elder' (rx HO184) (Kd.R_base ho48) hb); replace HO193 := Aside0.mk (Kd.R_elder' (rx HO193) (Kd.R_base ho48) hb); replace HB := bh HB hb; clear hb ho48; obtain ⟨Ao49, co49, eo49⟩ := Kd.R_slice HO202.out; subst eo49) | ((with_reducible refine gate_callee (f := 17) rfl ?_); refine goesB (some 20) rfl rfl Try.func17 #[.slice Ao49 y200.length co49, .slice none 0 0, .slice none 0 0] rfl ?_; (refine (stickfullaw14_row.calls k _ _ y200 _ _ ([] : List Int) _ _ ([] : List Int) t203 _ ?side1 ?side2 ?side3 ?side4 ?side5 ?side6 A4.out).mono ?_); (case side1 => repeat (first | exact (Kd.R_reads' HO202.out).2.2 | (with_reducible refine Kd.C_alloc ?_ _) | (with_reducible refine Kd.C_drewN ?_ _) | (with_reducible refine Kd.C_drew ?_))); (case side2 => exact (Kd.R_reads' HO202.out).2.1); (case side3 => exact Kd.C_nil _ _); (case side4 => exact Nat.le_refl _); (case side5 => exact Kd.C_nil _ _); (case side6 => exact Nat.le_refl _); rintro e w50 ⟨v204, rfl, ho0, hb⟩; refine ⟨_, rfl, ?_⟩; replace HO175 := Aside0.mk (Kd.R_below (rx HO175) hb); replace HO178 := Aside0.mk (Kd.R_below (rx HO178) hb); replace HO184 := Aside0.mk (Kd.R_below (rx HO184) hb); replace HO187 := Aside0.mk (Kd.R_below (rx HO187) hb); replace HO193 := Aside0.mk (Kd.R_below (rx HO193) hb); replace HO196 := Aside0.mk (Kd.R_below (rx HO196) hb); replace HO202 := Aside0.mk (Kd.R_below (rx HO202) hb); have HO205 := Aside0.mk (Kd.R_lower (Kd.R_new' (Kd.R_new' (Kd.R_new' ho0 (Kd.R_lt (rx HO181))) (Kd.R_lt (rx HO190))) (Kd.R_lt (rx HO199))) (below_size (bw HB))); replace HO181 := Aside0.mk (Kd.R_elder' (rx HO181) (Kd.R_base ho0) hb); replace HO190 := Aside0.mk (Kd.R_elder' (rx HO190) (Kd.R_base ho0) hb); replace HO199 := Aside0.mk (Kd.R_elder' (rx HO199) (Kd.R_base ho0) hb); replace HB := bh HB hb; (try clear hb); (try clear hb2); (try clear hk); (try clear hi); (try clear ho0); (try clear A4)) | ((with_reducible refine gate_dst (N := 23) rfl ?_); (try (refine gate_guard (by rfl) ?_; dsimp only)); refine Kd.R_lit k35 _ 35 ?hg (N := 23) ?hd (xs := ([(⟨0, 3, false⟩ : S35), (⟨3, 5, false⟩ : S35)] : List (S35))) (inner := [.int .i64 0, .int .i64 3, .bool false, .int .i64 3, .int .i64 5, .bool false]) (ok := fun _ => True) (okp := fun _ => True) ?hr ?hp (fun _ hk => hk) trivial (Below.refl _ _) (Nat.le_refl _) (by simp) ?_; (case hd => rfl); (case hg => rfl); (case hr => first | (go_simp; done) | (go_simp; rfl)); (case hp => exact (Reps.c3 (show Kd.M k35 _ _ _ (⟨0, 3, false⟩ : S35) [.int .i64 0, .int .i64 3, .bool false] from (k35_mkM _ _ _ (⟨0, 3, false⟩ : S35) )) (Reps.c3 (show Kd.M k35 _ _ _ (⟨3, 5, false⟩ : S35) [.int .i64 3, .int .i64 5, .bool false] from (k35_mkM _ _ _ (⟨3, 5, false⟩ : S35) )) (Reps.none _ _)))); intro v207 w51 ho52 hb hg_ hnew_; clear hg_ hnew_; (first | rw [← Ny206.out] at ho52 | (simp only [Int.reduceToNat] at ho52; rw [← Ny206.out] at ho52)); replace HO175 := Aside0.mk (Kd.R_below (rx HO175) hb); replace HO178 := Aside0.mk (Kd.R_below (rx HO178) hb); replace HO181 := Aside0.mk (Kd.R_below (rx HO181) hb); replace HO184 := Aside0.mk (Kd.R_below (rx HO184) hb); replace HO187 := Aside0.mk (Kd.R_below (rx HO187) hb); replace HO190 := Aside0.mk (Kd.R_below (rx HO190) hb); replace HO193 := Aside0.mk (Kd.R_below (rx HO193) hb); replace HO196 := Aside0.mk (Kd.R_below (rx HO196) hb); replace HO199 := Aside0.mk (Kd.R_below (rx HO199) hb); replace HO202 := Aside0.mk (Kd.R_below (rx HO202) hb); replace HO205 := Aside0.mk (Kd.R_below (rx HO205) hb); have HO208 := Aside0.mk (Kd.R_lower ho52 (below_size (bw HB))); replace HB := bh HB hb; clear hb ho52; obtain ⟨Ao53, co53, eo53⟩ := Kd.R_slice HO181.out; subst eo53) | ((with_reducible refine gate_callee (f := 16) rfl ?_); refine goesB (some 27) rfl rfl Try.func16 #[.slice Ao53 t179.length co53, .int .i64 6, .agg #[.int .i64 0, .int .i64 0]] rfl ?_; (with_reducible refine (fill_One.calls k _ _ t179 6 0 0 t209 t210 t211 t212 _ ?side1 ?side2 A5.out).mono ?_); (case side1 => repeat (first | exact (Kd.R_reads' HO181.out).2.2 | (with_reducible refine Kd.C_alloc ?_ _) | (with_reducible refine Kd.C_drewN ?_ _) | (with_reducible refine Kd.C_drew ?_))); (case side2 => exact (Kd.R_reads' HO181.out).2.1); rintro e w54 ⟨rfl, hb⟩; refine ⟨_, rfl, ?_⟩; replace HO175 := Aside0.mk (Kd.R_below (rx HO175) hb); replace HO178 := Aside0.mk (Kd.R_below (rx HO178) hb); replace HO181 := Aside0.mk (Kd.R_below (rx HO181) hb); replace HO184 := Aside0.mk (Kd.R_below (rx HO184) hb); replace HO187 := Aside0.mk (Kd.R_below (rx HO187) hb); replace HO190 := Aside0.mk (Kd.R_below (rx HO190) hb); replace HO193 := Aside0.mk (Kd.R_below (rx HO193) hb); replace HO196 := Aside0.mk (Kd.R_below (rx HO196) hb); replace HO199 := Aside0.mk (Kd.R_below (rx HO199) hb); replace HO202 := Aside0.mk (Kd.R_below (rx HO202) hb); replace HO205 := Aside0.mk (Kd.R_below (rx HO205) hb); replace HO208 := Aside0.mk (Kd.R_below (rx HO208) hb); replace HB := bh HB hb; (try clear hb); (try clear hb2); (try clear hk); (try clear hi)) | ((with_reducible refine gate_dst (N := 6) rfl ?_); (try (refine gate_guard (by rfl) ?_; dsimp only)); refine box_event ?hg (N := 6) ?hd (cs := #[.int .i64 0, .int .i64 0, .bool false]) (t := 35) ?hr ?_; (case hd => rfl); (case hg => rfl); (case hr => first | (go_simp; done) | (go_simp; rfl)); intro gb213 hg w55 hbox hb; replace HO175 := Aside0.mk (Kd.R_below (rx HO175) hb); replace HO178 := Aside0.mk (Kd.R_below (rx HO178) hb); replace HO181 := Aside0.mk (Kd.R_below (rx HO181) hb); replace HO184 := Aside0.mk (Kd.R_below (rx HO184) hb); replace HO187 := Aside0.mk (Kd.R_below (rx HO187) hb); replace HO190 := Aside0.mk (Kd.R_below (rx HO190) hb); replace HO193 := Aside0.mk (Kd.R_below (rx HO193) hb); replace HO196 := Aside0.mk (Kd.R_below (rx HO196) hb); replace HO199 := Aside0.mk (Kd.R_below (rx HO199) hb); replace HO202 := Aside0.mk (Kd.R_below (rx HO202) hb); replace HO205 := Aside0.mk (Kd.R_below (rx HO205) hb); replace HO208 := Aside0.mk (Kd.R_below (Kd.R_elderB (rx HO208) gb213 (Nat.le_of_eq hg.symm)) hb); have BK213 := Aside0.mk (hbox); have GW213 := bge HB hg; have GE213 := bge HB hg; replace HB := bh HB hb; clear hb hbox hg; obtain ⟨hcz56_0, hcz56_1, hcz56_2⟩ := cz3 BK213; obtain ⟨hfz56_0, hfz56_1, hfz56_2⟩ := fz3 BK213) | ((with_reducible refine gate_callee (f := 16) rfl ?_); refine goesB (some 33) rfl rfl Try.func16 #[.slice Ao53 t179.length co53, .int .i64 0, .agg #[.int .i64 (-1), .int .i64 0]] rfl ?_; (with_reducible refine (fill_One.calls k _ _ t179 0 (-1) 0 t214 t215 t216 t217 _ ?side1 ?side2 A6.out).mono ?_); (case side1 => refine (Kd.R_reads' (e := 44) (base := w.heap.size) (ok := fun k_ => (((True ∧ some k_ ≠ (v189 : Value).ownBlock) ∧ some k_ ≠ (v198 : Value).ownBlock) ∧ some k_ ≠ (v204 : Value).ownBlock)) (n := t179.length) (c := co53) ?_).2.2; exact (by (with_reducible repeat (first | apply Kd.R_alloc | apply Kd.R_drewN | apply Kd.R_drew)); exact (Kd.R_mono (Kd.R_far (p := ⟨gb213, 2, none⟩) (Kd.R_far (p := ⟨gb213, 1, none⟩) (Kd.R_far (p := ⟨gb213, 0, none⟩) (Kd.R_types HO181.out BK213.out (by decide)) (fun _ hk => hk.2) (.int .i64 t209)) (fun _ hk => hk.2) (.int .i64 t210)) (fun _ hk => hk.2) (.bool t211)) (fun _ h_ => h_.1)))); (case side2 => exact (Kd.R_reads' HO181.out).2.1); rintro e w57 ⟨rfl, hb⟩; refine ⟨_, rfl, ?_⟩; replace HO175 := Aside0.mk (Kd.R_below (by (with_reducible repeat (first | apply Kd.R_alloc | apply Kd.R_drewN | apply Kd.R_drew)); exact (Kd.R_mono (Kd.R_far (p := ⟨gb213, 2, none⟩) (Kd.R_far (p := ⟨gb213, 1, none⟩) (Kd.R_far (p := ⟨gb213, 0, none⟩) (Kd.R_types HO175.out BK213.out (by decide)) (fun _ hk => hk.2) (.int .i64 t209)) (fun _ hk => hk.2) (.int .i64 t210)) (fun _ hk => hk.2) (.bool t211)) (fun _ h_ => h_.1))) hb); replace HO178 := Aside0.mk (Kd.R_below (by (with_reducible repeat (first | apply Kd.R_alloc | apply Kd.R_drewN | apply Kd.R_drew)); exact (Kd.R_mono (Kd.R_far (p := ⟨gb213, 2, none⟩) (Kd.R_far (p := ⟨gb213, 1, none⟩) (Kd.R_far (p := ⟨gb213, 0, none⟩) (Kd.R_types HO178.out BK213.out (by decide)) (fun _ hk => hk.2) (.int .i64 t209)) (fun _ hk => hk.2) (.int .i64 t210)) (fun _ hk => hk.2) (.bool t211)) (fun _ h_ => h_.1))) hb); replace HO181 := Aside0.mk (Kd.R_below (by (with_reducible repeat (first | apply Kd.R_alloc | apply Kd.R_drewN | apply Kd.R_drew)); exact (Kd.R_mono (Kd.R_far (p := ⟨gb213, 2, none⟩) (Kd.R_far (p := ⟨gb213, 1, none⟩) (Kd.R_far (p := ⟨gb213, 0, none⟩) (Kd.R_types HO181.out BK213.out (by decide)) (fun _ hk => hk.2) (.int .i64 t209)) (fun _ hk => hk.2) (.int .i64 t210)) (fun _ hk => hk.2) (.bool t211)) (fun _ h_ => h_.1))) hb); replace HO184 := Aside0.mk (Kd.R_below (by (with_reducible repeat (first | apply Kd.R_alloc | apply Kd.R_drewN | apply Kd.R_drew)); exact (Kd.R_mono (Kd.R_far (p := ⟨gb213, 2, none⟩) (Kd.R_far (p := ⟨gb213, 1, none⟩) (Kd.R_far (p := ⟨gb213, 0, none⟩) (Kd.R_types HO184.out BK213.out (by decide)) (fun _ hk => hk.2) (.int .i64 t209)) (fun _ hk => hk.2) (.int .i64 t210)) (fun _ hk => hk.2) (.bool t211)) (fun _ h_ => h_.1))) hb); replace HO187 := Aside0.mk (Kd.R_below (by (with_reducible repeat (first | apply Kd.R_alloc | apply Kd.R_drewN | apply Kd.R_drew)); exact (Kd.R_mono (Kd.R_far (p := ⟨gb213, 2, none⟩) (Kd.R_far (p := ⟨gb213, 1, none⟩) (Kd.R_far (p := ⟨gb213, 0, none⟩) (Kd.R_types HO187.out BK213.out (by decide)) (fun _ hk => hk.2) (.int .i64 t209)) (fun _ hk => hk.2) (.int .i64 t210)) (fun _ hk => hk.2) (.bool t211)) (fun _ h_ => h_.1))) hb); replace HO190 := Aside0.mk (Kd.R_below (by (with_reducible repeat (first | apply Kd.R_alloc | apply Kd.R_drewN | apply Kd.R_drew)); exact (Kd.R_mono (Kd.R_far (p := ⟨gb213, 2, none⟩) (Kd.R_far (p := ⟨gb213, 1, none⟩) (Kd.R_far (p := ⟨gb213, 0, none⟩) (Kd.R_types HO190.out BK213.out (by decide)) (fun _ hk => hk.2) (.int .i64 t209)) (fun _ hk => hk.2) (.int .i64 t210)) (fun _ hk => hk.2) (.bool t211)) (fun _ h_ => h_.1))) hb); replace HO193 := Aside0.mk (Kd.R_below (by (with_reducible repeat (first | apply Kd.R_alloc | apply Kd.R_drewN | apply Kd.R_drew)); exact (Kd.R_mono (Kd.R_far (p := ⟨gb213, 2, none⟩) (Kd.R_far (p := ⟨gb213, 1, none⟩) (Kd.R_far (p := ⟨gb213, 0, none⟩) (Kd.R_types HO193.out BK213.out (by decide)) (fun _ hk => hk.2) (.int .i64 t209)) (fun _ hk => hk.2) (.int .i64 t210)) (fun _ hk => hk.2) (.bool t211)) (fun _ h_ => h_.1))) hb); replace HO196 := Aside0.mk (Kd.R_below (by (with_reducible repeat (first | apply Kd.R_alloc | apply Kd.R_drewN | apply Kd.R_drew)); exact (Kd.R_mono (Kd.R_far (p := ⟨gb213, 2, none⟩) (Kd.R_far (p := ⟨gb213, 1, none⟩) (Kd.R_far (p := ⟨gb213, 0, none⟩) (Kd.R_types HO196.out BK213.out (by decide)) (fun _ hk => hk.2) (.int .i64 t209)) (fun _ hk => hk.2) (.int .i64 t210)) (fun _ hk => hk.2) (.bool t211)) (fun _ h_ => h_.1))) hb); replace HO199 := Aside0.mk (Kd.R_below (by (with_reducible repeat (first | apply Kd.R_alloc | apply Kd.R_drewN | apply Kd.R_drew)); exact (Kd.R_mono (Kd.R_far (p := ⟨gb213, 2, none⟩) (Kd.R_far (p := ⟨gb213, 1, none⟩) (Kd.R_far (p := ⟨gb213, 0, none⟩) (Kd.R_types HO199.out BK213.out (by decide)) (fun _ hk => hk.2) (.int .i64 t209)) (fun _ hk => hk.2) (.int .i64 t210)) (fun _ hk => hk.2) (.bool t211)) (fun _ h_ => h_.1))) hb); replace HO202 := Aside0.mk (Kd.R_below (by (with_reducible repeat (first | apply Kd.R_alloc | apply Kd.R_drewN | apply Kd.R_drew)); exact (Kd.R_mono (Kd.R_far (p := ⟨gb213, 2, none⟩) (Kd.R_far (p := ⟨gb213, 1, none⟩) (Kd.R_far (p := ⟨gb213, 0, none⟩) (Kd.R_types HO202.out BK213.out (by decide)) (fun _ hk => hk.2) (.int .i64 t209)) (fun _ hk => hk.2) (.int .i64 t210)) (fun _ hk => hk.2) (.bool t211)) (fun _ h_ => h_.1))) hb); replace HO205 := Aside0.mk (Kd.R_below (by (with_reducible repeat (first | apply Kd.R_alloc | apply Kd.R_drewN | apply Kd.R_drew)); exact (Kd.R_mono (Kd.R_far (p := ⟨gb213, 2, none⟩) (Kd.R_far (p := ⟨gb213, 1, none⟩) (Kd.R_far (p := ⟨gb213, 0, none⟩) (Kd.R_types HO205.out BK213.out (by decide)) (fun _ hk => hk.2) (.int .i64 t209)) (fun _ hk => hk.2) (.int .i64 t210)) (fun _ hk => hk.2) (.bool t211)) (fun _ h_ => h_.1))) hb); replace HO208 := Aside0.mk (Kd.R_below (by (with_reducible repeat (first | apply Kd.R_alloc | apply Kd.R_drewN | apply Kd.R_drew)); exact (Kd.R_mono (Kd.R_far (p := ⟨gb213, 2, none⟩) (Kd.R_far (p := ⟨gb213, 1, none⟩) (Kd.R_far (p := ⟨gb213, 0, none⟩) (Kd.R_mono HO208.out (fun k_ hk => (⟨hk, hk.2⟩ : _ ∧ k_ ≠ gb213))) (fun _ hk => hk.2) (.int .i64 t209)) (fun _ hk => hk.2) (.int .i64 t210)) (fun _ hk => hk.2) (.bool t211)) (fun _ h_ => h_.1))) hb); replace BK213 := Aside0.mk (blk_below (o := .cells #[.int .i64 t209, .int .i64 t210, .bool t211] 35 (0, 0)) (bp BK213) hb); replace HB := bh HB hb; (try clear hb); (try clear hb2); (try clear hk); (try clear hi)) | ((with_reducible refine gate_dst (N := 8) rfl ?_); (try (refine gate_guard (by rfl) ?_; dsimp only)); refine box_event ?hg (N := 8) ?hd (cs := #[.int .i64 0, .int .i64 0, .bool false]) (t := 35) ?hr ?_; (case hd => rfl); (case hg => rfl); (case hr => first | (go_simp; done) | (go_simp; rfl)); intro gb218 hg w58 hbox hb; replace HO175 := Aside0.mk (Kd.R_below (rx HO175) hb); replace HO178 := Aside0.mk (Kd.R_below (rx HO178) hb); replace HO181 := Aside0.mk (Kd.R_below (rx HO181) hb); replace HO184 := Aside0.mk (Kd.R_below (rx HO184) hb); replace HO187 := Aside0.mk (Kd.R_below (rx HO187) hb); replace HO190 := Aside0.mk (Kd.R_below (rx HO190) hb); replace HO193 := Aside0.mk (Kd.R_below (rx HO193) hb); replace HO196 := Aside0.mk (Kd.R_below (rx HO196) hb); replace HO199 := Aside0.mk (Kd.R_below (rx HO199) hb); replace HO202 := Aside0.mk (Kd.R_below (rx HO202) hb); replace HO205 := Aside0.mk (Kd.R_below (rx HO205) hb); replace HO208 := Aside0.mk (Kd.R_below (Kd.R_elderB (rx HO208) gb218 (Nat.le_of_eq hg.symm)) hb); have BK218 := Aside0.mk (hbox); have GW218 := bge HB hg; have GE218 := bge HB hg; replace HB := bh HB hb; have NB213_218 := nbl BK213 hg; have NB218_213 := nbg BK213 hg; replace BK213 := bb BK213 hb; clear hb hbox hg; have hnb59 := NB218_213.out; have hnc59 := NB213_218.out; obtain ⟨hcz60_0, hcz60_1, hcz60_2⟩ := cz3 BK218; obtain ⟨hfz60_0, hfz60_1, hfz60_2⟩ := fz3 BK218; obtain ⟨Ao61, co61, eo61⟩ := Kd.R_slice HO208.out; subst eo61) | ((with_reducible refine gate_callee (f := 18) rfl ?_); refine goesB (some 38) rfl rfl Try.func18 #[.slice Ao53 t179.length co53, .int .i64 12, .slice Ao61 y206.length co61] rfl ?_; (with_reducible refine (stickfullaw14_lines.calls k _ _ t179 12 _ _ y206 true _ ?side1 ?side2 ?side3 ?side4 A7.out).mono ?_); (case side1 => refine (Kd.R_reads' (e := 44) (base := w.heap.size) (ok := fun k_ => (((True ∧ some k_ ≠ (v189 : Value).ownBlock) ∧ some k_ ≠ (v198 : Value).ownBlock) ∧ some k_ ≠ (v204 : Value).ownBlock)) (n := t179.length) (c := co53) ?_).2.2; exact (by (with_reducible repeat (first | apply Kd.R_alloc | apply Kd.R_drewN | apply Kd.R_drew)); exact (Kd.R_mono (Kd.R_far (p := ⟨gb218, 2, none⟩) (Kd.R_far (p := ⟨gb218, 1, none⟩) (Kd.R_far (p := ⟨gb218, 0, none⟩) (Kd.R_types HO181.out BK218.out (by decide)) (fun _ hk => hk.2) (.int .i64 t214)) (fun _ hk => hk.2) (.int .i64 t215)) (fun _ hk => hk.2) (.bool t216)) (fun _ h_ => h_.1)))); (case side2 => exact (Kd.R_reads' HO181.out).2.1); (case side3 => refine (Kd.R_reads' (e := 35) (base := w.heap.size) (ok := fun k_ => ((True ∧ k_ ≠ gb213) ∧ k_ ≠ gb218)) (n := y206.length) (c := co61) ?_).2.2; exact (by (with_reducible repeat (first | apply Kd.R_alloc | apply Kd.R_drewN | apply Kd.R_drew)); exact (Kd.R_mono (Kd.R_far (p := ⟨gb218, 2, none⟩) (Kd.R_far (p := ⟨gb218, 1, none⟩) (Kd.R_far (p := ⟨gb218, 0, none⟩) (Kd.R_mono HO208.out (fun k_ hk => (⟨hk, hk.2⟩ : _ ∧ k_ ≠ gb218))) (fun _ hk => hk.2) (.int .i64 t214)) (fun _ hk => hk.2) (.int .i64 t215)) (fun _ hk => hk.2) (.bool t216)) (fun _ h_ => h_.1)))); (case side4 => exact (Kd.R_reads' HO208.out).2.1); rintro e w62 ⟨rfl, hb⟩; refine ⟨_, rfl, ?_⟩; replace HO175 := Aside0.mk (Kd.R_below (by (with_reducible repeat (first | apply Kd.R_alloc | apply Kd.R_drewN | apply Kd.R_drew)); exact (Kd.R_mono (Kd.R_far (p := ⟨gb218, 2, none⟩) (Kd.R_far (p := ⟨gb218, 1, none⟩) (Kd.R_far (p := ⟨gb218, 0, none⟩) (Kd.R_types HO175.out BK218.out (by decide)) (fun _ hk => hk.2) (.int .i64 t214)) (fun _ hk => hk.2) (.int .i64 t215)) (fun _ hk => hk.2) (.bool t216)) (fun _ h_ => h_.1))) hb); replace HO178 := Aside0.mk (Kd.R_below (by (with_reducible repeat (first | apply Kd.R_alloc | apply Kd.R_drewN | apply Kd.R_drew)); exact (Kd.R_mono (Kd.R_far (p := ⟨gb218, 2, none⟩) (Kd.R_far (p := ⟨gb218, 1, none⟩) (Kd.R_far (p := ⟨gb218, 0, none⟩) (Kd.R_types HO178.out BK218.out (by decide)) (fun _ hk => hk.2) (.int .i64 t214)) (fun _ hk => hk.2) (.int .i64 t215)) (fun _ hk => hk.2) (.bool t216)) (fun _ h_ => h_.1))) hb); replace HO181 := Aside0.mk (Kd.R_below (by (with_reducible repeat (first | apply Kd.R_alloc | apply Kd.R_drewN | apply Kd.R_drew)); exact (Kd.R_mono (Kd.R_far (p := ⟨gb218, 2, none⟩) (Kd.R_far (p := ⟨gb218, 1, none⟩) (Kd.R_far (p := ⟨gb218, 0, none⟩) (Kd.R_types HO181.out BK218.out (by decide)) (fun _ hk => hk.2) (.int .i64 t214)) (fun _ hk => hk.2) (.int .i64 t215)) (fun _ hk => hk.2) (.bool t216)) (fun _ h_ => h_.1))) hb); replace HO184 := Aside0.mk (Kd.R_below (by (with_reducible repeat (first | apply Kd.R_alloc | apply Kd.R_drewN | apply Kd.R_drew)); exact (Kd.R_mono (Kd.R_far (p := ⟨gb218, 2, none⟩) (Kd.R_far (p := ⟨gb218, 1, none⟩) (Kd.R_far (p := ⟨gb218, 0, none⟩) (Kd.R_types HO184.out BK218.out (by decide)) (fun _ hk => hk.2) (.int .i64 t214)) (fun _ hk => hk.2) (.int .i64 t215)) (fun _ hk => hk.2) (.bool t216)) (fun _ h_ => h_.1))) hb); replace HO187 := Aside0.mk (Kd.R_below (by (with_reducible repeat (first | apply Kd.R_alloc | apply Kd.R_drewN | apply Kd.R_drew)); exact (Kd.R_mono (Kd.R_far (p := ⟨gb218, 2, none⟩) (Kd.R_far (p := ⟨gb218, 1, none⟩) (Kd.R_far (p := ⟨gb218, 0, none⟩) (Kd.R_types HO187.out BK218.out (by decide)) (fun _ hk => hk.2) (.int .i64 t214)) (fun _ hk => hk.2) (.int .i64 t215)) (fun _ hk => hk.2) (.bool t216)) (fun _ h_ => h_.1))) hb); replace HO190 := Aside0.mk (Kd.R_below (by (with_reducible repeat (first | apply Kd.R_alloc | apply Kd.R_drewN | apply Kd.R_drew)); exact (Kd.R_mono (Kd.R_far (p := ⟨gb218, 2, none⟩) (Kd.R_far (p := ⟨gb218, 1, none⟩) (Kd.R_far (p := ⟨gb218, 0, none⟩) (Kd.R_types HO190.out BK218.out (by decide)) (fun _ hk => hk.2) (.int .i64 t214)) (fun _ hk => hk.2) (.int .i64 t215)) (fun _ hk => hk.2) (.bool t216)) (fun _ h_ => h_.1))) hb); replace HO193 := Aside0.mk (Kd.R_below (by (with_reducible repeat (first | apply Kd.R_alloc | apply Kd.R_drewN | apply Kd.R_drew)); exact (Kd.R_mono (Kd.R_far (p := ⟨gb218, 2, none⟩) (Kd.R_far (p := ⟨gb218, 1, none⟩) (Kd.R_far (p := ⟨gb218, 0, none⟩) (Kd.R_types HO193.out BK218.out (by decide)) (fun _ hk => hk.2) (.int .i64 t214)) (fun _ hk => hk.2) (.int .i64 t215)) (fun _ hk => hk.2) (.bool t216)) (fun _ h_ => h_.1))) hb); replace HO196 := Aside0.mk (Kd.R_below (by (with_reducible repeat (first | apply Kd.R_alloc | apply Kd.R_drewN | apply Kd.R_drew)); exact (Kd.R_mono (Kd.R_far (p := ⟨gb218, 2, none⟩) (Kd.R_far (p := ⟨gb218, 1, none⟩) (Kd.R_far (p := ⟨gb218, 0, none⟩) (Kd.R_types HO196.out BK218.out (by decide)) (fun _ hk => hk.2) (.int .i64 t214)) (fun _ hk => hk.2) (.int .i64 t215)) (fun _ hk => hk.2) (.bool t216)) (fun _ h_ => h_.1))) hb); replace HO199 := Aside0.mk (Kd.R_below (by (with_reducible repeat (first | apply Kd.R_alloc | apply Kd.R_drewN | apply Kd.R_drew)); exact (Kd.R_mono (Kd.R_far (p := ⟨gb218, 2, none⟩) (Kd.R_far (p := ⟨gb218, 1, none⟩) (Kd.R_far (p := ⟨gb218, 0, none⟩) (Kd.R_types HO199.out BK218.out (by decide)) (fun _ hk => hk.2) (.int .i64 t214)) (fun _ hk => hk.2) (.int .i64 t215)) (fun _ hk => hk.2) (.bool t216)) (fun _ h_ => h_.1))) hb); replace HO202 := Aside0.mk (Kd.R_below (by (with_reducible repeat (first | apply Kd.R_alloc | apply Kd.R_drewN | apply Kd.R_drew)); exact (Kd.R_mono (Kd.R_far (p := ⟨gb218, 2, none⟩) (Kd.R_far (p := ⟨gb218, 1, none⟩) (Kd.R_far (p := ⟨gb218, 0, none⟩) (Kd.R_types HO202.out BK218.out (by decide)) (fun _ hk => hk.2) (.int .i64 t214)) (fun _ hk => hk.2) (.int .i64 t215)) (fun _ hk => hk.2) (.bool t216)) (fun _ h_ => h_.1))) hb); replace HO205 := Aside0.mk (Kd.R_below (by (with_reducible repeat (first | apply Kd.R_alloc | apply Kd.R_drewN | apply Kd.R_drew)); exact (Kd.R_mono (Kd.R_far (p := ⟨gb218, 2, none⟩) (Kd.R_far (p := ⟨gb218, 1, none⟩) (Kd.R_far (p := ⟨gb218, 0, none⟩) (Kd.R_types HO205.out BK218.out (by decide)) (fun _ hk => hk.2) (.int .i64 t214)) (fun _ hk => hk.2) (.int .i64 t215)) (fun _ hk => hk.2) (.bool t216)) (fun _ h_ => h_.1))) hb); replace HO208 := Aside0.mk (Kd.R_below (by (with_reducible repeat (first | apply Kd.R_alloc | apply Kd.R_drewN | apply Kd.R_drew)); exact (Kd.R_mono (Kd.R_far (p := ⟨gb218, 2, none⟩) (Kd.R_far (p := ⟨gb218, 1, none⟩) (Kd.R_far (p := ⟨gb218, 0, none⟩) (Kd.R_mono HO208.out (fun k_ hk => (⟨hk, hk.2⟩ : _ ∧ k_ ≠ gb218))) (fun _ hk => hk.2) (.int .i64 t214)) (fun _ hk => hk.2) (.int .i64 t215)) (fun _ hk => hk.2) (.bool t216)) (fun _ h_ => h_.1))) hb); replace BK213 := bb BK213 hb; replace BK218 := Aside0.mk (blk_below (o := .cells #[.int .i64 t214, .int .i64 t215, .bool t216] 35 (0, 0)) (bp BK218) hb); replace HB := bh HB hb; (try clear hb); (try clear hb2); (try clear hk); (try clear hi)) | (go_at_call 18; (with_reducible refine (stickfullaw14_lines.calls k _ _ t179 10 _ _ y206 true _ ?side1 ?side2 ?side3 ?side4 A9.out).mono ?_); (case side1 => repeat (first | exact (Kd.R_reads' HO181.out).2.2 | (with_reducible refine Kd.C_alloc ?_ _) | (with_reducible refine Kd.C_drewN ?_ _) | (with_reducible refine Kd.C_drew ?_))); (case side2 => exact (Kd.R_reads' HO181.out).2.1); (case side3 => repeat (first | exact (Kd.R_reads' HO208.out).2.2 | (with_reducible refine Kd.C_alloc ?_ _) | (with_reducible refine Kd.C_drewN ?_ _) | (with_reducible refine Kd.C_drew ?_))); (case side4 => exact (Kd.R_reads' HO208.out).2.1); rintro e w63 ⟨rfl, hb⟩; replace HO175 := Aside0.mk (Kd.R_below (rx HO175) hb); replace HO178 := Aside0.mk (Kd.R_below (rx HO178) hb); replace HO181 := Aside0.mk (Kd.R_below (rx HO181) hb); replace HO184 := Aside0.mk (Kd.R_below (rx HO184) hb); replace HO187 := Aside0.mk (Kd.R_below (rx HO187) hb); replace HO190 := Aside0.mk (Kd.R_below (rx HO190) hb); replace HO193 := Aside0.mk (Kd.R_below (rx HO193) hb); replace HO196 := Aside0.mk (Kd.R_below (rx HO196) hb); replace HO199 := Aside0.mk (Kd.R_below (rx HO199) hb); replace HO202 := Aside0.mk (Kd.R_below (rx HO202) hb); replace HO205 := Aside0.mk (Kd.R_below (rx HO205) hb); replace HO208 := Aside0.mk (Kd.R_below (rx HO208) hb); replace BK213 := bb BK213 hb; replace BK218 := bb BK218 hb; replace HB := bh HB hb; (try clear hb); (try clear hb2); (try clear hk); (try clear hi)) | (go_at_call 18; (with_reducible refine (stickfullaw14_lines.calls k _ _ t179 9 _ _ y206 true _ ?side1 ?side2 ?side3 ?side4 A11.out).mono ?_); (case side1 => repeat (first | exact (Kd.R_reads' HO181.out).2.2 | (with_reducible refine Kd.C_alloc ?_ _) | (with_reducible refine Kd.C_drewN ?_ _) | (with_reducible refine Kd.C_drew ?_))); (case side2 => exact (Kd.R_reads' HO181.out).2.1); (case side3 => repeat (first | exact (Kd.R_reads' HO208.out).2.2 | (with_reducible refine Kd.C_alloc ?_ _) | (with_reducible refine Kd.C_drewN ?_ _) | (with_reducible refine Kd.C_drew ?_))); (case side4 => exact (Kd.R_reads' HO208.out).2.1); rintro e w64 ⟨rfl, hb⟩; replace HO175 := Aside0.mk (Kd.R_below (rx HO175) hb); replace HO178 := Aside0.mk (Kd.R_below (rx HO178) hb); replace HO181 := Aside0.mk (Kd.R_below (rx HO181) hb); replace HO184 := Aside0.mk (Kd.R_below (rx HO184) hb); replace HO187 := Aside0.mk (Kd.R_below (rx HO187) hb); replace HO190 := Aside0.mk (Kd.R_below (rx HO190) hb); replace HO193 := Aside0.mk (Kd.R_below (rx HO193) hb); replace HO196 := Aside0.mk (Kd.R_below (rx HO196) hb); replace HO199 := Aside0.mk (Kd.R_below (rx HO199) hb); replace HO202 := Aside0.mk (Kd.R_below (rx HO202) hb); replace HO205 := Aside0.mk (Kd.R_below (rx HO205) hb); replace HO208 := Aside0.mk (Kd.R_below (rx HO208) hb); replace BK213 := bb BK213 hb; replace BK218 := bb BK218 hb; replace HB := bh HB hb; (try clear hb); (try clear hb2); (try clear hk); (try clear hi)) | ((with_reducible refine gate_dst (N := 52) rfl ?_); (try (refine gate_guard (by rfl) ?_; dsimp only)); refine Kd.R_lit k35 _ 35 ?hg (N := 52) ?hd (xs := ([(⟨0, 5, false⟩ : S35)] : List (S35))) (inner := [.int .i64 0, .int .i64 5, .bool false]) (ok := fun _ => True) (okp := fun _ => True) ?hr ?hp (fun _ hk => hk) trivial (Below.refl _ _) (Nat.le_refl _) (by simp) ?_; (case hd => rfl); (case hg => rfl); (case hr => first | (go_simp; done) | (go_simp; rfl)); (case hp => exact (Reps.c3 (show Kd.M k35 _ _ _ (⟨0, 5, false⟩ : S35) [.int .i64 0, .int .i64 5, .bool false] from (k35_mkM _ _ _ (⟨0, 5, false⟩ : S35) )) (Reps.none _ _))); intro v223 w65 ho66 hb hg_ hnew_; clear hg_ hnew_; (first | rw [← Ny222.out] at ho66 | (simp only [Int.reduceToNat] at ho66; rw [← Ny222.out] at ho66)); replace HO175 := Aside0.mk (Kd.R_below (rx HO175) hb); replace HO178 := Aside0.mk (Kd.R_below (rx HO178) hb); replace HO181 := Aside0.mk (Kd.R_below (rx HO181) hb); replace HO184 := Aside0.mk (Kd.R_below (rx HO184) hb); replace HO187 := Aside0.mk (Kd.R_below (rx HO187) hb); replace HO190 := Aside0.mk (Kd.R_below (rx HO190) hb); replace HO193 := Aside0.mk (Kd.R_below (rx HO193) hb); replace HO196 := Aside0.mk (Kd.R_below (rx HO196) hb); replace HO199 := Aside0.mk (Kd.R_below (rx HO199) hb); replace HO202 := Aside0.mk (Kd.R_below (rx HO202) hb); replace HO205 := Aside0.mk (Kd.R_below (rx HO205) hb); have HO224 := Aside0.mk (Kd.R_lower (Kd.R_newB (Kd.R_newB (Kd.R_new' ho66 (Kd.R_lt (rx HO208))) (bx BK213)) (bx BK218)) (below_size (bw HB))); replace HO208 := Aside0.mk (Kd.R_elder' (rx HO208) (Kd.R_base ho66) hb); replace BK213 := bb BK213 hb; replace BK218 := bb BK218 hb; replace HB := bh HB hb; clear hb ho66; obtain ⟨Ao67, co67, eo67⟩ := Kd.R_slice HO224.out; subst eo67) | (go_at_call 18; (with_reducible refine (stickfullaw14_lines.calls k _ _ t179 25 _ _ y222 true _ ?side1 ?side2 ?side3 ?side4 A13.out).mono ?_); (case side1 => repeat (first | exact (Kd.R_reads' HO181.out).2.2 | (with_reducible refine Kd.C_alloc ?_ _) | (with_reducible refine Kd.C_drewN ?_ _) | (with_reducible refine Kd.C_drew ?_))); (case side2 => exact (Kd.R_reads' HO181.out).2.1); (case side3 => repeat (first | exact (Kd.R_reads' HO224.out).2.2 | (with_reducible refine Kd.C_alloc ?_ _) | (with_reducible refine Kd.C_drewN ?_ _) | (with_reducible refine Kd.C_drew ?_))); (case side4 => exact (Kd.R_reads' HO224.out).2.1); rintro e w68 ⟨rfl, hb⟩; replace HO175 := Aside0.mk (Kd.R_below (rx HO175) hb); replace HO178 := Aside0.mk (Kd.R_below (rx HO178) hb); replace HO181 := Aside0.mk (Kd.R_below (rx HO181) hb); replace HO184 := Aside0.mk (Kd.R_below (rx HO184) hb); replace HO187 := Aside0.mk (Kd.R_below (rx HO187) hb); replace HO190 := Aside0.mk (Kd.R_below (rx HO190) hb); replace HO193 := Aside0.mk (Kd.R_below (rx HO193) hb); replace HO196 := Aside0.mk (Kd.R_below (rx HO196) hb); replace HO199 := Aside0.mk (Kd.R_below (rx HO199) hb); replace HO202 := Aside0.mk (Kd.R_below (rx HO202) hb); replace HO205 := Aside0.mk (Kd.R_below (rx HO205) hb); replace HO208 := Aside0.mk (Kd.R_below (rx HO208) hb); replace HO224 := Aside0.mk (Kd.R_below (rx HO224) hb); replace BK213 := bb BK213 hb; replace BK218 := bb BK218 hb; replace HB := bh HB hb; (try clear hb); (try clear hb2); (try clear hk); (try clear hi)) | ((with_reducible refine gate_dst (N := 59) rfl ?_); (try (refine gate_guard (by rfl) ?_; dsimp only)); refine Kd.R_lit k35 _ 35 ?hg (N := 59) ?hd (xs := ([(⟨0, 2, false⟩ : S35), (⟨2, 3, false⟩ : S35)] : List (S35))) (inner := [.int .i64 0, .int .i64 2, .bool false, .int .i64 2, .int .i64 3, .bool false]) (ok := fun _ => True) (okp := fun _ => True) ?hr ?hp (fun _ hk => hk) trivial (Below.refl _ _) (Nat.le_refl _) (by simp) ?_; (case hd => rfl); (case hg => rfl); (case hr => first | (go_simp; done) | (go_simp; rfl)); (case hp => exact (Reps.c3 (show Kd.M k35 _ _ _ (⟨0, 2, false⟩ : S35) [.int .i64 0, .int .i64 2, .bool false] from (k35_mkM _ _ _ (⟨0, 2, false⟩ : S35) )) (Reps.c3 (show Kd.M k35 _ _ _ (⟨2, 3, false⟩ : S35) [.int .i64 2, .int .i64 3, .bool false] from (k35_mkM _ _ _ (⟨2, 3, false⟩ : S35) )) (Reps.none _ _)))); intro v227 w69 ho70 hb hg_ hnew_; clear hg_ hnew_; (first | rw [← Ny226.out] at ho70 | (simp only [Int.reduceToNat] at ho70; rw [← Ny226.out] at ho70)); replace HO175 := Aside0.mk (Kd.R_below (rx HO175) hb); replace HO178 := Aside0.mk (Kd.R_below (rx HO178) hb); replace HO181 := Aside0.mk (Kd.R_below (rx HO181) hb); replace HO184 := Aside0.mk (Kd.R_below (rx HO184) hb); replace HO187 := Aside0.mk (Kd.R_below (rx HO187) hb); replace HO190 := Aside0.mk (Kd.R_below (rx HO190) hb); replace HO193 := Aside0.mk (Kd.R_below (rx HO193) hb); replace HO196 := Aside0.mk (Kd.R_below (rx HO196) hb); replace HO199 := Aside0.mk (Kd.R_below (rx HO199) hb); replace HO202 := Aside0.mk (Kd.R_below (rx HO202) hb); replace HO205 := Aside0.mk (Kd.R_below (rx HO205) hb); have HO228 := Aside0.mk (Kd.R_lower (Kd.R_newB (Kd.R_newB (Kd.R_new' (Kd.R_new' ho70 (Kd.R_lt (rx HO208))) (Kd.R_lt (rx HO224))) (bx BK213)) (bx BK218)) (below_size (bw HB))); replace HO208 := Aside0.mk (Kd.R_elder' (rx HO208) (Kd.R_base ho70) hb); replace HO224 := Aside0.mk (Kd.R_elder' (rx HO224) (Kd.R_base ho70) hb); replace BK213 := bb BK213 hb; replace BK218 := bb BK218 hb; replace HB := bh HB hb; clear hb ho70; obtain ⟨Ao71, co71, eo71⟩ := Kd.R_slice HO190.out; subst eo71; obtain ⟨Ao72, co72, eo72⟩ := Kd.R_slice HO228.out; subst eo72) | (go_at_call 18; (with_reducible refine (stickfullaw14_lines.calls k _ _ t188 12 _ _ y226 true _ ?side1 ?side2 ?side3 ?side4 A15.out).mono ?_); (case side1 => repeat (first | exact (Kd.R_reads' HO190.out).2.2 | (with_reducible refine Kd.C_alloc ?_ _) | (with_reducible refine Kd.C_drewN ?_ _) | (with_reducible refine Kd.C_drew ?_))); (case side2 => exact (Kd.R_reads' HO190.out).2.1); (case side3 => repeat (first | exact (Kd.R_reads' HO228.out).2.2 | (with_reducible refine Kd.C_alloc ?_ _) | (with_reducible refine Kd.C_drewN ?_ _) | (with_reducible refine Kd.C_drew ?_))); (case side4 => exact (Kd.R_reads' HO228.out).2.1); rintro e w73 ⟨rfl, hb⟩; replace HO175 := Aside0.mk (Kd.R_below (rx HO175) hb); replace HO178 := Aside0.mk (Kd.R_below (rx HO178) hb); replace HO181 := Aside0.mk (Kd.R_below (rx HO181) hb); replace HO184 := Aside0.mk (Kd.R_below (rx HO184) hb); replace HO187 := Aside0.mk (Kd.R_below (rx HO187) hb); replace HO190 := Aside0.mk (Kd.R_below (rx HO190) hb); replace HO193 := Aside0.mk (Kd.R_below (rx HO193) hb); replace HO196 := Aside0.mk (Kd.R_below (rx HO196) hb); replace HO199 := Aside0.mk (Kd.R_below (rx HO199) hb); replace HO202 := Aside0.mk (Kd.R_below (rx HO202) hb); replace HO205 := Aside0.mk (Kd.R_below (rx HO205) hb); replace HO208 := Aside0.mk (Kd.R_below (rx HO208) hb); replace HO224 := Aside0.mk (Kd.R_below (rx HO224) hb); replace HO228 := Aside0.mk (Kd.R_below (rx HO228) hb); replace BK213 := bb BK213 hb; replace BK218 := bb BK218 hb; replace HB := bh HB hb; (try clear hb); (try clear hb2); (try clear hk); (try clear hi)) | ((with_reducible refine gate_dst (N := 67) rfl ?_); (try (refine gate_guard (by rfl) ?_; dsimp only)); refine Kd.R_lit k35 _ 35 ?hg (N := 67) ?hd (xs := ([(⟨0, 1, false⟩ : S35), (⟨1, 2, false⟩ : S35), (⟨2, 3, false⟩ : S35)] : List (S35))) (inner := [.int .i64 0, .int .i64 1, .bool false, .int .i64 1, .int .i64 2, .bool false, .int .i64 2, .int .i64 3, .bool false]) (ok := fun _ => True) (okp := fun _ => True) ?hr ?hp (fun _ hk => hk) trivial (Below.refl _ _) (Nat.le_refl _) (by simp) ?_; (case hd => rfl); (case hg => rfl); (case hr => first | (go_simp; done) | (go_simp; rfl)); (case hp => exact (Reps.c3 (show Kd.M k35 _ _ _ (⟨0, 1, false⟩ : S35) [.int .i64 0, .int .i64 1, .bool false] from (k35_mkM _ _ _ (⟨0, 1, false⟩ : S35) )) (Reps.c3 (show Kd.M k35 _ _ _ (⟨1, 2, false⟩ : S35) [.int .i64 1, .int .i64 2, .bool false] from (k35_mkM _ _ _ (⟨1, 2, false⟩ : S35) )) (Reps.c3 (show Kd.M k35 _ _ _ (⟨2, 3, false⟩ : S35) [.int .i64 2, .int .i64 3, .bool false] from (k35_mkM _ _ _ (⟨2, 3, false⟩ : S35) )) (Reps.none _ _))))); intro v231 w74 ho75 hb hg_ hnew_; clear hg_ hnew_; (first | rw [← Ny230.out] at ho75 | (simp only [Int.reduceToNat] at ho75; rw [← Ny230.out] at ho75)); replace HO175 := Aside0.mk (Kd.R_below (rx HO175) hb); replace HO178 := Aside0.mk (Kd.R_below (rx HO178) hb); replace HO181 := Aside0.mk (Kd.R_below (rx HO181) hb); replace HO184 := Aside0.mk (Kd.R_below (rx HO184) hb); replace HO187 := Aside0.mk (Kd.R_below (rx HO187) hb); replace HO190 := Aside0.mk (Kd.R_below (rx HO190) hb); replace HO193 := Aside0.mk (Kd.R_below (rx HO193) hb); replace HO196 := Aside0.mk (Kd.R_below (rx HO196) hb); replace HO199 := Aside0.mk (Kd.R_below (rx HO199) hb); replace HO202 := Aside0.mk (Kd.R_below (rx HO202) hb); replace HO205 := Aside0.mk (Kd.R_below (rx HO205) hb); have HO232 := Aside0.mk (Kd.R_lower (Kd.R_newB (Kd.R_newB (Kd.R_new' (Kd.R_new' (Kd.R_new' ho75 (Kd.R_lt (rx HO208))) (Kd.R_lt (rx HO224))) (Kd.R_lt (rx HO228))) (bx BK213)) (bx BK218)) (below_size (bw HB))); replace HO208 := Aside0.mk (Kd.R_elder' (rx HO208) (Kd.R_base ho75) hb); replace HO224 := Aside0.mk (Kd.R_elder' (rx HO224) (Kd.R_base ho75) hb); replace HO228 := Aside0.mk (Kd.R_elder' (rx HO228) (Kd.R_base ho75) hb); replace BK213 := bb BK213 hb; replace BK218 := bb BK218 hb; replace HB := bh HB hb; clear hb ho75; obtain ⟨Ao76, co76, eo76⟩ := Kd.R_slice HO232.out; subst eo76) | (go_at_call 18; (with_reducible refine (stickfullaw14_lines.calls k _ _ t188 4 _ _ y230 true _ ?side1 ?side2 ?side3 ?side4 A17.out).mono ?_); (case side1 => repeat (first | exact (Kd.R_reads' HO190.out).2.2 | (with_reducible refine Kd.C_alloc ?_ _) | (with_reducible refine Kd.C_drewN ?_ _) | (with_reducible refine Kd.C_drew ?_))); (case side2 => exact (Kd.R_reads' HO190.out).2.1); (case side3 => repeat (first | exact (Kd.R_reads' HO232.out).2.2 | (with_reducible refine Kd.C_alloc ?_ _) | (with_reducible refine Kd.C_drewN ?_ _) | (with_reducible refine Kd.C_drew ?_))); (case side4 => exact (Kd.R_reads' HO232.out).2.1); rintro e w77 ⟨rfl, hb⟩; replace HO175 := Aside0.mk (Kd.R_below (rx HO175) hb); replace HO178 := Aside0.mk (Kd.R_below (rx HO178) hb); replace HO181 := Aside0.mk (Kd.R_below (rx HO181) hb); replace HO184 := Aside0.mk (Kd.R_below (rx HO184) hb); replace HO187 := Aside0.mk (Kd.R_below (rx HO187) hb); replace HO190 := Aside0.mk (Kd.R_below (rx HO190) hb); replace HO193 := Aside0.mk (Kd.R_below (rx HO193) hb); replace HO196 := Aside0.mk (Kd.R_below (rx HO196) hb); replace HO199 := Aside0.mk (Kd.R_below (rx HO199) hb); replace HO202 := Aside0.mk (Kd.R_below (rx HO202) hb); replace HO205 := Aside0.mk (Kd.R_below (rx HO205) hb); replace HO208 := Aside0.mk (Kd.R_below (rx HO208) hb); replace HO224 := Aside0.mk (Kd.R_below (rx HO224) hb); replace HO228 := Aside0.mk (Kd.R_below (rx HO228) hb); replace HO232 := Aside0.mk (Kd.R_below (rx HO232) hb); replace BK213 := bb BK213 hb; replace BK218 := bb BK218 hb; replace HB := bh HB hb; (try clear hb); (try clear hb2); (try clear hk); (try clear hi)) | ((with_reducible refine gate_dst (N := 73) rfl ?_); (try (refine gate_guard (by rfl) ?_; dsimp only)); refine Kd.R_lit k35 _ 35 ?hg (N := 73) ?hd (xs := ([(⟨0, 3, false⟩ : S35)] : List (S35))) (inner := [.int .i64 0, .int .i64 3, .bool false]) (ok := fun _ => True) (okp := fun _ => True) ?hr ?hp (fun _ hk => hk) trivial (Below.refl _ _) (Nat.le_refl _) (by simp) ?_; (case hd => rfl); (case hg => rfl); (case hr => first | (go_simp; done) | (go_simp; rfl)); (case hp => exact (Reps.c3 (show Kd.M k35 _ _ _ (⟨0, 3, false⟩ : S35) [.int .i64 0, .int .i64 3, .bool false] from (k35_mkM _ _ _ (⟨0, 3, false⟩ : S35) )) (Reps.none _ _))); intro v235 w78 ho79 hb hg_ hnew_; clear hg_ hnew_; (first | rw [← Ny234.out] at ho79 | (simp only [Int.reduceToNat] at ho79; rw [← Ny234.out] at ho79)); replace HO175 := Aside0.mk (Kd.R_below (rx HO175) hb); replace HO178 := Aside0.mk (Kd.R_below (rx HO178) hb); replace HO181 := Aside0.mk (Kd.R_below (rx HO181) hb); replace HO184 := Aside0.mk (Kd.R_below (rx HO184) hb); replace HO187 := Aside0.mk (Kd.R_below (rx HO187) hb); replace HO190 := Aside0.mk (Kd.R_below (rx HO190) hb); replace HO193 := Aside0.mk (Kd.R_below (rx HO193) hb); replace HO196 := Aside0.mk (Kd.R_below (rx HO196) hb); replace HO199 := Aside0.mk (Kd.R_below (rx HO199) hb); replace HO202 := Aside0.mk (Kd.R_below (rx HO202) hb); replace HO205 := Aside0.mk (Kd.R_below (rx HO205) hb); have HO236 := Aside0.mk (Kd.R_lower (Kd.R_newB (Kd.R_newB (Kd.R_new' (Kd.R_new' (Kd.R_new' (Kd.R_new' ho79 (Kd.R_lt (rx HO208))) (Kd.R_lt (rx HO224))) (Kd.R_lt (rx HO228))) (Kd.R_lt (rx HO232))) (bx BK213)) (bx BK218)) (below_size (bw HB))); replace HO208 := Aside0.mk (Kd.R_elder' (rx HO208) (Kd.R_base ho79) hb); replace HO224 := Aside0.mk (Kd.R_elder' (rx HO224) (Kd.R_base ho79) hb); replace HO228 := Aside0.mk (Kd.R_elder' (rx HO228) (Kd.R_base ho79) hb); replace HO232 := Aside0.mk (Kd.R_elder' (rx HO232) (Kd.R_base ho79) hb); replace BK213 := bb BK213 hb; replace BK218 := bb BK218 hb; replace HB := bh HB hb; clear hb ho79; obtain ⟨Ao80, co80, eo80⟩ := Kd.R_slice HO199.out; subst eo80; obtain ⟨Ao81, co81, eo81⟩ := Kd.R_slice HO236.out; subst eo81) | (go_at_call 18; (with_reducible refine (stickfullaw14_lines.calls k _ _ t197 4 _ _ y234 true _ ?side1 ?side2 ?side3 ?side4 A19.out).mono ?_); (case side1 => repeat (first | exact (Kd.R_reads' HO199.out).2.2 | (with_reducible refine Kd.C_alloc ?_ _) | (with_reducible refine Kd.C_drewN ?_ _) | (with_reducible refine Kd.C_drew ?_))); (case side2 => exact (Kd.R_reads' HO199.out).2.1); (case side3 => repeat (first | exact (Kd.R_reads' HO236.out).2.2 | (with_reducible refine Kd.C_alloc ?_ _) | (with_reducible refine Kd.C_drewN ?_ _) | (with_reducible refine Kd.C_drew ?_))); (case side4 => exact (Kd.R_reads' HO236.out).2.1); rintro e w82 ⟨rfl, hb⟩; replace HO175 := Aside0.mk (Kd.R_below (rx HO175) hb); replace HO178 := Aside0.mk (Kd.R_below (rx HO178) hb); replace HO181 := Aside0.mk (Kd.R_below (rx HO181) hb); replace HO184 := Aside0.mk (Kd.R_below (rx HO184) hb); replace HO187 := Aside0.mk (Kd.R_below (rx HO187) hb); replace HO190 := Aside0.mk (Kd.R_below (rx HO190) hb); replace HO193 := Aside0.mk (Kd.R_below (rx HO193) hb); replace HO196 := Aside0.mk (Kd.R_below (rx HO196) hb); replace HO199 := Aside0.mk (Kd.R_below (rx HO199) hb); replace HO202 := Aside0.mk (Kd.R_below (rx HO202) hb); replace HO205 := Aside0.mk (Kd.R_below (rx HO205) hb); replace HO208 := Aside0.mk (Kd.R_below (rx HO208) hb); replace HO224 := Aside0.mk (Kd.R_below (rx HO224) hb); replace HO228 := Aside0.mk (Kd.R_below (rx HO228) hb); replace HO232 := Aside0.mk (Kd.R_below (rx HO232) hb); replace HO236 := Aside0.mk (Kd.R_below (rx HO236) hb); replace BK213 := bb BK213 hb; replace BK218 := bb BK218 hb; replace HB := bh HB hb; (try clear hb); (try clear hb2); (try clear hk); (try clear hi)) | ((with_reducible refine gate_dst (N := 81) rfl ?_); (try (refine gate_guard (by rfl) ?_; dsimp only)); refine Kd.R_lit k35 _ 35 ?hg (N := 81) ?hd (xs := ([(⟨0, 2, true⟩ : S35), (⟨2, 4, true⟩ : S35), (⟨4, 4, false⟩ : S35)] : List (S35))) (inner := [.int .i64 0, .int .i64 2, .bool true, .int .i64 2, .int .i64 4, .bool true, .int .i64 4, .int .i64 4, .bool false]) (ok := fun _ => True) (okp := fun _ => True) ?hr ?hp (fun _ hk => hk) trivial (Below.refl _ _) (Nat.le_refl _) (by simp) ?_; (case hd => rfl); (case hg => rfl); (case hr => first | (go_simp; done) | (go_simp; rfl)); (case hp => exact (Reps.c3 (show Kd.M k35 _ _ _ (⟨0, 2, true⟩ : S35) [.int .i64 0, .int .i64 2, .bool true] from (k35_mkM _ _ _ (⟨0, 2, true⟩ : S35) )) (Reps.c3 (show Kd.M k35 _ _ _ (⟨2, 4, true⟩ : S35) [.int .i64 2, .int .i64 4, .bool true] from (k35_mkM _ _ _ (⟨2, 4, true⟩ : S35) )) (Reps.c3 (show Kd.M k35 _ _ _ (⟨4, 4, false⟩ : S35) [.int .i64 4, .int .i64 4, .bool false] from (k35_mkM _ _ _ (⟨4, 4, false⟩ : S35) )) (Reps.none _ _))))); intro v239 w83 ho84 hb hg_ hnew_; clear hg_ hnew_; (first | rw [← Ny238.out] at ho84 | (simp only [Int.reduceToNat] at ho84; rw [← Ny238.out] at ho84)); replace HO175 := Aside0.mk (Kd.R_below (rx HO175) hb); replace HO178 := Aside0.mk (Kd.R_below (rx HO178) hb); replace HO181 := Aside0.mk (Kd.R_below (rx HO181) hb); replace HO184 := Aside0.mk (Kd.R_below (rx HO184) hb); replace HO187 := Aside0.mk (Kd.R_below (rx HO187) hb); replace HO190 := Aside0.mk (Kd.R_below (rx HO190) hb); replace HO193 := Aside0.mk (Kd.R_below (rx HO193) hb); replace HO196 := Aside0.mk (Kd.R_below (rx HO196) hb); replace HO199 := Aside0.mk (Kd.R_below (rx HO199) hb); replace HO202 := Aside0.mk (Kd.R_below (rx HO202) hb); replace HO205 := Aside0.mk (Kd.R_below (rx HO205) hb); have HO240 := Aside0.mk (Kd.R_lower (Kd.R_newB (Kd.R_newB (Kd.R_new' (Kd.R_new' (Kd.R_new' (Kd.R_new' (Kd.R_new' ho84 (Kd.R_lt (rx HO208))) (Kd.R_lt (rx HO224))) (Kd.R_lt (rx HO228))) (Kd.R_lt (rx HO232))) (Kd.R_lt (rx HO236))) (bx BK213)) (bx BK218)) (below_size (bw HB))); replace HO208 := Aside0.mk (Kd.R_elder' (rx HO208) (Kd.R_base ho84) hb); replace HO224 := Aside0.mk (Kd.R_elder' (rx HO224) (Kd.R_base ho84) hb); replace HO228 := Aside0.mk (Kd.R_elder' (rx HO228) (Kd.R_base ho84) hb); replace HO232 := Aside0.mk (Kd.R_elder' (rx HO232) (Kd.R_base ho84) hb); replace HO236 := Aside0.mk (Kd.R_elder' (rx HO236) (Kd.R_base ho84) hb); replace BK213 := bb BK213 hb; replace BK218 := bb BK218 hb; replace HB := bh HB hb; clear hb ho84; obtain ⟨Ao85, co85, eo85⟩ := Kd.R_slice HO205.out; subst eo85; obtain ⟨Ao86, co86, eo86⟩ := Kd.R_slice HO240.out; subst eo86) | (go_at_call 18; (with_reducible refine (stickfullaw14_lines.calls k _ _ t203 99 _ _ y238 true _ ?side1 ?side2 ?side3 ?side4 A21.out).mono ?_); (case side1 => repeat (first | exact (Kd.R_reads' HO205.out).2.2 | (with_reducible refine Kd.C_alloc ?_ _) | (with_reducible refine Kd.C_drewN ?_ _) | (with_reducible refine Kd.C_drew ?_))); (case side2 => exact (Kd.R_reads' HO205.out).2.1); (case side3 => repeat (first | exact (Kd.R_reads' HO240.out).2.2 | (with_reducible refine Kd.C_alloc ?_ _) | (with_reducible refine Kd.C_drewN ?_ _) | (with_reducible refine Kd.C_drew ?_))); (case side4 => exact (Kd.R_reads' HO240.out).2.1); rintro e w87 ⟨rfl, hb⟩; replace HO175 := Aside0.mk (Kd.R_below (rx HO175) hb); replace HO178 := Aside0.mk (Kd.R_below (rx HO178) hb); replace HO181 := Aside0.mk (Kd.R_below (rx HO181) hb); replace HO184 := Aside0.mk (Kd.R_below (rx HO184) hb); replace HO187 := Aside0.mk (Kd.R_below (rx HO187) hb); replace HO190 := Aside0.mk (Kd.R_below (rx HO190) hb); replace HO193 := Aside0.mk (Kd.R_below (rx HO193) hb); replace HO196 := Aside0.mk (Kd.R_below (rx HO196) hb); replace HO199 := Aside0.mk (Kd.R_below (rx HO199) hb); replace HO202 := Aside0.mk (Kd.R_below (rx HO202) hb); replace HO205 := Aside0.mk (Kd.R_below (rx HO205) hb); replace HO208 := Aside0.mk (Kd.R_below (rx HO208) hb); replace HO224 := Aside0.mk (Kd.R_below (rx HO224) hb); replace HO228 := Aside0.mk (Kd.R_below (rx HO228) hb); replace HO232 := Aside0.mk (Kd.R_below (rx HO232) hb); replace HO236 := Aside0.mk (Kd.R_below (rx HO236) hb); replace HO240 := Aside0.mk (Kd.R_below (rx HO240) hb); replace BK213 := bb BK213 hb; replace BK218 := bb BK218 hb; replace HB := bh HB hb; (try clear hb); (try clear hb2); (try clear hk); (try clear hi)) | ((with_reducible refine gate_dst (N := 86) rfl ?_); (try (refine gate_guard (by rfl) ?_; dsimp only)); refine Kd.R_lit k35 _ 35 ?hg (N := 86) ?hd (xs := ([(⟨0, 0, false⟩ : S35)] : List (S35))) (inner := [.int .i64 0, .int .i64 0, .bool false]) (ok := fun _ => True) (okp := fun _ => True) ?hr ?hp (fun _ hk => hk) trivial (Below.refl _ _) (Nat.le_refl _) (by simp) ?_; (case hd => rfl); (case hg => rfl); (case hr => first | (go_simp; done) | (go_simp; rfl)); (case hp => exact (Reps.c3 (show Kd.M k35 _ _ _ (⟨0, 0, false⟩ : S35) [.int .i64 0, .int .i64 0, .bool false] from (k35_mkM _ _ _ (⟨0, 0, false⟩ : S35) )) (Reps.none _ _))); intro v243 w88 ho89 hb hg_ hnew_; clear hg_ hnew_; (first | rw [← Ny242.out] at ho89 | (simp only [Int.reduceToNat] at ho89; rw [← Ny242.out] at ho89)); replace HO175 := Aside0.mk (Kd.R_below (rx HO175) hb); replace HO178 := Aside0.mk (Kd.R_below (rx HO178) hb); replace HO181 := Aside0.mk (Kd.R_below (rx HO181) hb); replace HO184 := Aside0.mk (Kd.R_below (rx HO184) hb); replace HO187 := Aside0.mk (Kd.R_below (rx HO187) hb); replace HO190 := Aside0.mk (Kd.R_below (rx HO190) hb); replace HO193 := Aside0.mk (Kd.R_below (rx HO193) hb); replace HO196 := Aside0.mk (Kd.R_below (rx HO196) hb); replace HO199 := Aside0.mk (Kd.R_below (rx HO199) hb); replace HO202 := Aside0.mk (Kd.R_below (rx HO202) hb); replace HO205 := Aside0.mk (Kd.R_below (rx HO205) hb); have HO244 := Aside0.mk (Kd.R_lower (Kd.R_newB (Kd.R_newB (Kd.R_new' (Kd.R_new' (Kd.R_new' (Kd.R_new' (Kd.R_new' (Kd.R_new' ho89 (Kd.R_lt (rx HO208))) (Kd.R_lt (rx HO224))) (Kd.R_lt (rx HO228))) (Kd.R_lt (rx HO232))) (Kd.R_lt (rx HO236))) (Kd.R_lt (rx HO240))) (bx BK213)) (bx BK218)) (below_size (bw HB))); replace HO208 := Aside0.mk (Kd.R_elder' (rx HO208) (Kd.R_base ho89) hb); replace HO224 := Aside0.mk (Kd.R_elder' (rx HO224) (Kd.R_base ho89) hb); replace HO228 := Aside0.mk (Kd.R_elder' (rx HO228) (Kd.R_base ho89) hb); replace HO232 := Aside0.mk (Kd.R_elder' (rx HO232) (Kd.R_base ho89) hb); replace HO236 := Aside0.mk (Kd.R_elder' (rx HO236) (Kd.R_base ho89) hb); replace HO240 := Aside0.mk (Kd.R_elder' (rx HO240) (Kd.R_base ho89) hb); replace BK213 := bb BK213 hb; replace BK218 := bb BK218 hb; replace HB := bh HB hb; clear hb ho89; obtain ⟨Ao90, co90, eo90⟩ := Kd.R_slice HO244.out; subst eo90) | (go_at_call 18; (refine (stickfullaw14_lines.calls k _ _ ([] : List (S44)) 0 _ _ y242 true _ ?side1 ?side2 ?side3 ?side4 A23.out).mono ?_); (case side1 => exact Kd.C_nil _ _); (case side2 => exact Nat.le_refl _); (case side3 => repeat (first | exact (Kd.R_reads' HO244.out).2.2 | (with_reducible refine Kd.C_alloc ?_ _) | (with_reducible refine Kd.C_drewN ?_ _) | (with_reducible refine Kd.C_drew ?_))); (case side4 => exact (Kd.R_reads' HO244.out).2.1); rintro e w91 ⟨rfl, hb⟩; replace HO175 := Aside0.mk (Kd.R_below (rx HO175) hb); replace HO178 := Aside0.mk (Kd.R_below (rx HO178) hb); replace HO181 := Aside0.mk (Kd.R_below (rx HO181) hb); replace HO184 := Aside0.mk (Kd.R_below (rx HO184) hb); replace HO187 := Aside0.mk (Kd.R_below (rx HO187) hb); replace HO190 := Aside0.mk (Kd.R_below (rx HO190) hb); replace HO193 := Aside0.mk (Kd.R_below (rx HO193) hb); replace HO196 := Aside0.mk (Kd.R_below (rx HO196) hb); replace HO199 := Aside0.mk (Kd.R_below (rx HO199) hb); replace HO202 := Aside0.mk (Kd.R_below (rx HO202) hb); replace HO205 := Aside0.mk (Kd.R_below (rx HO205) hb); replace HO208 := Aside0.mk (Kd.R_below (rx HO208) hb); replace HO224 := Aside0.mk (Kd.R_below (rx HO224) hb); replace HO228 := Aside0.mk (Kd.R_below (rx HO228) hb); replace HO232 := Aside0.mk (Kd.R_below (rx HO232) hb); replace HO236 := Aside0.mk (Kd.R_below (rx HO236) hb); replace HO240 := Aside0.mk (Kd.R_below (rx HO240) hb); replace HO244 := Aside0.mk (Kd.R_below (rx HO244) hb); replace BK213 := bb BK213 hb; replace BK218 := bb BK218 hb; replace HB := bh HB hb; (try clear hb); (try clear hb2); (try clear hk); (try clear hi); (try clear A23)))
                      go_ret
                      exact ⟨by first | rfl | (simp [errW_none, errW_some] <;> rfl) | (simp [*, errW_none, errW_some] <;> rfl), by repeat (first | (with_reducible first | exact HB.out | apply below_alloc | apply pw_below_drewN | apply below_drew1 | refine below_set ?_ GE213.out | refine below_set ?_ GE218.out) | exact HB.out)⟩
                    · rw [if_neg c25] at H
                      have c25b0 : (t212 == 2) = false := beq_eq_false_iff_ne.mpr c25
                      have c25b1 : (t212 != 2) = true := bne_iff_ne.mpr c25
                      exact absurd ((Option.some.inj H).trans HR_.out) (by decide)
                  · replace c24 := Bool.eq_false_iff.mpr c24
                    subst c24
                    have H1 : (some false) = some r := by rw [if_neg (show ¬ (false = true) by decide)] at H; exact H
                    clear H
                    have H := H1
                    clear H1
                    exact absurd ((Option.some.inj H).trans HR_.out) (by decide)
                · replace c22 := Bool.eq_false_iff.mpr c22
                  subst c22
                  have H1 : (some false) = some r := by rw [if_neg (show ¬ (false = true) by decide)] at H; exact H
                  clear H
                  have H := H1
                  clear H1
                  exact absurd ((Option.some.inj H).trans HR_.out) (by decide)
              · replace c20 := Bool.eq_false_iff.mpr c20
                subst c20
                have H1 : (some false) = some r := by rw [if_neg (show ¬ (false = true) by decide)] at H; exact H
                clear H
                have H := H1
                clear H1
                exact absurd ((Option.some.inj H).trans HR_.out) (by decide)
            · replace c18 := Bool.eq_false_iff.mpr c18
              subst c18
              have H1 : (some false) = some r := by rw [if_neg (show ¬ (false = true) by decide)] at H; exact H
              clear H
              have H := H1
              clear H1
              exact absurd ((Option.some.inj H).trans HR_.out) (by decide)
          · replace c16 := Bool.eq_false_iff.mpr c16
            subst c16
            have H1 : (some false) = some r := by rw [if_neg (show ¬ (false = true) by decide)] at H; exact H
            clear H
            have H := H1
            clear H1
            exact absurd ((Option.some.inj H).trans HR_.out) (by decide)
        · replace c14 := Bool.eq_false_iff.mpr c14
          subst c14
          have H1 : (some false) = some r := by rw [if_neg (show ¬ (false = true) by decide)] at H; exact H
          clear H
          have H := H1
          clear H1
          exact absurd ((Option.some.inj H).trans HR_.out) (by decide)
      · replace c12 := Bool.eq_false_iff.mpr c12
        subst c12
        have H1 : (some false) = some r := by rw [if_neg (show ¬ (false = true) by decide)] at H; exact H
        clear H
        have H := H1
        clear H1
        exact absurd ((Option.some.inj H).trans HR_.out) (by decide)
    · replace c10 := Bool.eq_false_iff.mpr c10
      subst c10
      have H1 : (some false) = some r := by rw [if_neg (show ¬ (false = true) by decide)] at H; exact H
      clear H
      have H := H1
      clear H1
      exact absurd ((Option.some.inj H).trans HR_.out) (by decide)
  · replace c8 := Bool.eq_false_iff.mpr c8
    subst c8
    have H1 : (some false) = some r := by rw [if_neg (show ¬ (false = true) by decide)] at H; exact H
    clear H
    have H := H1
    clear H1
    exact absurd ((Option.some.inj H).trans HR_.out) (by decide)

theorem stickfullaw14_head.true_ (k : Nat) (r : Bool) (h : stickfullaw14_head.f k = some r) : r = true := by
 have h1 : stickfullaw14_head.f 100 = some true := by kernel_rfl
 have a := at_rounds stickfullaw14_head.mono (Nat.le_max_left k 100) h
 have b := at_rounds stickfullaw14_head.mono (Nat.le_max_right k 100) h1
 rw [a] at b
 exact Option.some.inj b
theorem stickfullaw14_head.calls (k : Nat)  (r : Bool) (w : World) (h : stickfullaw14_head.f k  = some r) :
    Calls Try.prog 8 #[] w fun e w' => e = .returned (.bool r) ∧ Below w.heap.size w w' := stickfullaw14_head.calls_t k r w h (stickfullaw14_head.true_ k r h)

/-! ### stickfulref14_Last: function 34 -/
mutual
def stickfulref14_Last.j1 : Nat → List (S44) → Int → Option (Int × Bool)
  | 0, _, _ => none
  | k + 1, x0, x6 => if x6 = (x0.length : Int) then (some (x6, false)) else (stickfulref14_Last.l1 k x0 (wrap64 (x6 + 1)))
def stickfulref14_Last.l1 : Nat → List (S44) → Int → Option (Int × Bool)
  | 0, _, _ => none
  | k + 1, x0, x6 => if x6 < (x0.length : Int) then (if 0 ≤ x6 then (if ((rd_T44 x0 x6).f0) = 8 then (stickfulref14_Last.l1 k x0 (wrap64 (x6 + 1))) else (some (x6, true))) else (none)) else (some (x6, true))
def stickfulref14_Last.l0 : Nat → List (S44) → Int → Option (Int × Bool)
  | 0, _, _ => none
  | k + 1, x0, x6 => if x6 < (x0.length : Int) then (if 0 ≤ x6 then (if ((rd_T44 x0 x6).f0) = 5 then (stickfulref14_Last.j1 k x0 x6) else (stickfulref14_Last.l0 k x0 (wrap64 (x6 + 1)))) else (none)) else (stickfulref14_Last.j1 k x0 x6)
end
def stickfulref14_Last.f (k : Nat) (l0 : List (S44)) (a1 : Int) : Option (Int × Bool) := stickfulref14_Last.l0 k l0 a1
theorem stickfulref14_Last.mono_l : ∀ k, (∀ y0 y1, LeO (stickfulref14_Last.j1 k y0 y1) (stickfulref14_Last.j1 (k + 1) y0 y1)) ∧ (∀ y0 y1, LeO (stickfulref14_Last.l1 k y0 y1) (stickfulref14_Last.l1 (k + 1) y0 y1)) ∧ (∀ y0 y1, LeO (stickfulref14_Last.l0 k y0 y1) (stickfulref14_Last.l0 (k + 1) y0 y1))
  | 0 => ⟨fun _ _ r h => by simp [stickfulref14_Last.j1] at h, fun _ _ r h => by simp [stickfulref14_Last.l1] at h, fun _ _ r h => by simp [stickfulref14_Last.l0] at h⟩
  | k + 1 => by
    obtain ⟨ih0, ih1, ih2⟩ := stickfulref14_Last.mono_l k
    refine ⟨?_, ?_, ?_⟩
    · intro y0 y1
      unfold stickfulref14_Last.j1
      repeat' first
      | (with_reducible exact ih0 _ _)
      | (with_reducible exact ih1 _ _)
      | (with_reducible exact ih2 _ _)
      | (with_reducible exact LeO.refl _)
      | (with_reducible exact LeO.none _)
      | (with_reducible refine LeO.ite ?_ ?_)
      | (with_reducible refine LeO.bind ?_ (fun _ => ?_))
      | exact ih0 _ _
      | exact ih1 _ _
      | exact ih2 _ _
      | exact LeO.none _
      | refine LeO.ite ?_ ?_
      | refine LeO.bind ?_ (fun _ => ?_)
    · intro y0 y1
      unfold stickfulref14_Last.l1
      repeat' first
      | (with_reducible exact ih0 _ _)
      | (with_reducible exact ih1 _ _)
      | (with_reducible exact ih2 _ _)
      | (with_reducible exact LeO.refl _)
      | (with_reducible exact LeO.none _)
      | (with_reducible refine LeO.ite ?_ ?_)
      | (with_reducible refine LeO.bind ?_ (fun _ => ?_))
      | exact ih0 _ _
      | exact ih1 _ _
      | exact ih2 _ _
      | exact LeO.none _
      | refine LeO.ite ?_ ?_
      | refine LeO.bind ?_ (fun _ => ?_)
    · intro y0 y1
      unfold stickfulref14_Last.l0
      repeat' first
      | (with_reducible exact ih0 _ _)
      | (with_reducible exact ih1 _ _)
      | (with_reducible exact ih2 _ _)
      | (with_reducible exact LeO.refl _)
      | (with_reducible exact LeO.none _)
      | (with_reducible refine LeO.ite ?_ ?_)
      | (with_reducible refine LeO.bind ?_ (fun _ => ?_))
      | exact ih0 _ _
      | exact ih1 _ _
      | exact ih2 _ _
      | exact LeO.none _
      | refine LeO.ite ?_ ?_
      | refine LeO.bind ?_ (fun _ => ?_)
theorem stickfulref14_Last.mono : ∀ a0 a1 k, LeO (stickfulref14_Last.f k a0 a1) (stickfulref14_Last.f (k + 1) a0 a1) := by
  intro a0 a1 k
  obtain ⟨ih0, ih1, ih2⟩ := stickfulref14_Last.mono_l k
  unfold stickfulref14_Last.f
  repeat' first
      | (with_reducible exact ih0 _ _)
      | (with_reducible exact ih1 _ _)
      | (with_reducible exact ih2 _ _)
      | (with_reducible exact LeO.refl _)
      | (with_reducible exact LeO.none _)
      | (with_reducible refine LeO.ite ?_ ?_)
      | (with_reducible refine LeO.bind ?_ (fun _ => ?_))
      | exact ih0 _ _
      | exact ih1 _ _
      | exact ih2 _ _
      | exact LeO.none _
      | refine LeO.ite ?_ ?_
      | refine LeO.bind ?_ (fun _ => ?_)
set_option maxHeartbeats 8000000 in
set_option maxRecDepth 100000 in
theorem stickfulref14_Last.calls (k : Nat) (A0 : Option Addr) (c0 : Nat) (l0 : List (S44)) (a1 r1 : Int) (r2 : Bool) (w : World) (hr0 : Kd.C k44 w A0 l0.length l0) (hc0 : l0.length ≤ c0) (h : stickfulref14_Last.f k l0 a1 = some (r1, r2)) :
    Calls Try.prog 34 #[.slice A0 l0.length c0, .int .i64 a1] w fun e w' => e = .returned (.tuple #[.int .i64 r1, .bool r2]) ∧ Drawn0 w w' := by
  have HR0 := Aside0.mk hr0
  have HC0 := Aside0.mk hc0
  clear hr0 hc0
  have H : (stickfulref14_Last.l0 k l0 a1) = some (r1, r2) := h
  clear h
  have HC3 := Aside0.mk H
  clear H
  go_enter Try.func34, Try.ntmps34
  go_upto_block 0 with (fail)
  go_cut [6] (fun v6 wc => ∃ (kq : Nat) (x6_2 : Int), v6 = .int .i64 x6_2 ∧ Aside0 (stickfulref14_Last.j1 kq l0 x6_2 = some (r1, r2)) ∧ Aside0 (kq ≤ k) ∧ Drawn0 w wc)
  case first =>
    have H := HC3.out
    clear HC3
    have H' := Aside0.mk H
    clear H
    go_wp2
    go_loopg [6] k (fun kq v6 w' => ∃ (x6_1 : Int), v6 = .int .i64 x6_1 ∧ Aside0 (stickfulref14_Last.l0 kq l0 x6_1 = some (r1, r2)) ∧ Aside0 (kq ≤ k) ∧ Drawn0 w w')
    case atStart => exact ⟨(a1), (by first | rfl | (simp; done) | (simp [*]; done)), H', ⟨Nat.le_refl _⟩, by repeat (first | exact Drawn0.refl _ | apply Drawn0.step)⟩
    case round =>
      clear H'
      try clear p2
      try clear c3
      obtain ⟨x6_1, rfl, HA, HK1, ⟨m1, rfl⟩⟩ := hrel
      cases gk with
      | zero => exact absurd HA.out (by simp [stickfulref14_Last.l0])
      | succ k1 =>
        have H := HA.out
        clear HA
        simp only [stickfulref14_Last.l0] at H
        by_cases c4 : x6_1 < (l0.length : Int)
        · rw [if_pos c4] at H
          have c4b0 : decide (x6_1 < (l0.length : Int)) = true := decide_eq_true c4
          clear c4
          (first | rw [c4b0] | (simp only [i64_w, i32_w]; rw [c4b0]) | skip)
          by_cases c5 : 0 ≤ x6_1
          · rw [if_pos c5] at H
            have c5b0 : decide (0 ≤ x6_1) = true := decide_eq_true c5
            clear c5
            by_cases c6 : ((rd_T44 l0 x6_1).f0) = 5
            · rw [if_pos c6] at H
              have c6b0 : (((rd_T44 l0 x6_1).f0) == 5) = true := beq_iff_eq.mpr c6
              have c6b1 : (((rd_T44 l0 x6_1).f0) != 5) = false := bne_eq_false_iff_eq.mpr c6
              clear c6
              have H' := Aside0.mk H
              clear H
              have p246 : 0 ≤ (x6_1 : Int) := of_decide_eq_true (by first | (with_reducible assumption) | assumption)
              have q246 : x6_1 < (l0.length : Int) := of_decide_eq_true (by first | (with_reducible assumption) | assumption)
              obtain ⟨ad246, e246, hx246_0, hx246_1, hx246_2, hx246_3, hx246_4, hx246_5⟩ := at_T44 HR0.out x6_1 p246 q246
              cases e246
              replace p246 := eq_true p246
              replace q246 := eq_true q246
              go_wp2
              go_meet
              case rel => exact ⟨_, (x6_1), (by first | rfl | (simp; done) | (simp [*]; done)), H', ⟨by have := HK1.out; first | omega | exact Nat.le_refl _⟩, by repeat (first | exact Drawn0.refl _ | apply Drawn0.step)⟩
            · rw [if_neg c6] at H
              have c6b0 : (((rd_T44 l0 x6_1).f0) == 5) = false := beq_eq_false_iff_ne.mpr c6
              have c6b1 : (((rd_T44 l0 x6_1).f0) != 5) = true := bne_iff_ne.mpr c6
              have H' := Aside0.mk H
              clear H
              have p246 : 0 ≤ (x6_1 : Int) := of_decide_eq_true (by first | (with_reducible assumption) | assumption)
              have q246 : x6_1 < (l0.length : Int) := of_decide_eq_true (by first | (with_reducible assumption) | assumption)
              obtain ⟨ad246, e246, hx246_0, hx246_1, hx246_2, hx246_3, hx246_4, hx246_5⟩ := at_T44 HR0.out x6_1 p246 q246
              cases e246
              replace p246 := eq_true p246
              replace q246 := eq_true q246
              go_wp2
              go_roundg k1
              case measure => have := HK1.out; omega
              case rel => exact ⟨(wrap64 (x6_1 + 1)), (by first | rfl | (simp; done) | (simp [*]; done)), H', ⟨by have := HK1.out; omega⟩, by repeat (first | exact Drawn0.refl _ | apply Drawn0.step)⟩
          · rw [if_neg c5] at H
            exact absurd H (by simp)
        · rw [if_neg c4] at H
          have c4b0 : decide (x6_1 < (l0.length : Int)) = false := decide_eq_false c4
          clear c4
          (first | rw [c4b0] | (simp only [i64_w, i32_w]; rw [c4b0]) | skip)
          have H' := Aside0.mk H
          clear H
          go_wp2
          go_meet
          case rel => exact ⟨_, (x6_1), (by first | rfl | (simp; done) | (simp [*]; done)), H', ⟨by have := HK1.out; first | omega | exact Nat.le_refl _⟩, by repeat (first | exact Drawn0.refl _ | apply Drawn0.step)⟩
  case rest =>
    clear HC3
    try clear p2
    try clear q2
    try clear hx2
    try clear c3
    try clear c4
    try clear c4b0
    try clear c5
    try clear c5b0
    try clear c6
    try clear c6b0
    try clear c6b1
    try clear p6
    try clear hx246_0
    try clear hx246_1
    try clear hx246_2
    try clear hx246_3
    try clear hx246_4
    try clear hx246_5
    try clear p2
    try clear p246
    try clear q246
    obtain ⟨kq, x6_2, rfl, HA, HJ2, ⟨mc2, rfl⟩⟩ := hcut
    cases kq with
    | zero => exact absurd HA.out (by simp [stickfulref14_Last.j1])
    | succ kj2 =>
      have H := HA.out
      clear HA
      simp only [stickfulref14_Last.j1] at H
      by_cases c7 : x6_2 = (l0.length : Int)
      · rw [if_pos c7] at H
        have c7b0 : (x6_2 == (l0.length : Int)) = true := beq_iff_eq.mpr c7
        have c7b1 : (x6_2 != (l0.length : Int)) = false := bne_eq_false_iff_eq.mpr c7
        clear c7
        simp only [Option.some.injEq, Prod.mk.injEq] at H
        obtain ⟨rfl, rfl⟩ := H
        go_wp2
        go_ret2
        exact ⟨by first | rfl | (simp; done) | (simp [*]; done), by repeat (first | exact Drawn0.refl _ | apply Drawn0.step)⟩
      · rw [if_neg c7] at H
        have c7b0 : (x6_2 == (l0.length : Int)) = false := beq_eq_false_iff_ne.mpr c7
        have c7b1 : (x6_2 != (l0.length : Int)) = true := bne_iff_ne.mpr c7
        have H' := Aside0.mk H
        clear H
        go_wp2
        go_loopg [6] kj2 (fun kq v6 w' => ∃ (x6_2 : Int), v6 = .int .i64 x6_2 ∧ Aside0 (stickfulref14_Last.l1 kq l0 x6_2 = some (r1, r2)) ∧ Aside0 (kq ≤ kj2) ∧ Drawn0 w w')
        case atStart => exact ⟨(wrap64 (x6_2 + 1)), (by first | rfl | (simp; done) | (simp [*]; done)), H', ⟨Nat.le_refl _⟩, by repeat (first | exact Drawn0.refl _ | apply Drawn0.step)⟩
        case round =>
          clear H'
          try clear c2
          try clear p2
          try clear q2
          try clear hx2
          try clear c3
          try clear c4
          try clear c4b0
          try clear c5
          try clear c5b0
          try clear c6
          try clear c6b0
          try clear c6b1
          try clear p6
          try clear c7
          try clear c7b0
          try clear c7b1
          try clear hx246_0
          try clear hx246_1
          try clear hx246_2
          try clear hx246_3
          try clear hx246_4
          try clear hx246_5
          try clear p2
          try clear p246
          try clear p6
          try clear q2
          try clear q246
          obtain ⟨x6_2, rfl, HA, HK2, ⟨m2, rfl⟩⟩ := hrel
          cases gk with
          | zero => exact absurd HA.out (by simp [stickfulref14_Last.l1])
          | succ k2 =>
            have H := HA.out
            clear HA
            simp only [stickfulref14_Last.l1] at H
            by_cases c8 : x6_2 < (l0.length : Int)
            · rw [if_pos c8] at H
              have c8b0 : decide (x6_2 < (l0.length : Int)) = true := decide_eq_true c8
              clear c8
              by_cases c9 : 0 ≤ x6_2
              · rw [if_pos c9] at H
                have c9b0 : decide (0 ≤ x6_2) = true := decide_eq_true c9
                clear c9
                by_cases c10 : ((rd_T44 l0 x6_2).f0) = 8
                · rw [if_pos c10] at H
                  have c10b0 : (((rd_T44 l0 x6_2).f0) == 8) = true := beq_iff_eq.mpr c10
                  have c10b1 : (((rd_T44 l0 x6_2).f0) != 8) = false := bne_eq_false_iff_eq.mpr c10
                  clear c10
                  have H' := Aside0.mk H
                  clear H
                  have p247 : 0 ≤ (x6_2 : Int) := of_decide_eq_true (by first | (with_reducible assumption) | assumption)
                  have q247 : x6_2 < (l0.length : Int) := of_decide_eq_true (by first | (with_reducible assumption) | assumption)
                  obtain ⟨ad247, e247, hx247_0, hx247_1, hx247_2, hx247_3, hx247_4, hx247_5⟩ := at_T44 HR0.out x6_2 p247 q247
                  cases e247
                  replace p247 := eq_true p247
                  replace q247 := eq_true q247
                  go_wp2
                  go_roundg k2
                  case measure => have := HJ2.out; have := HK2.out; omega
                  case rel => exact ⟨(wrap64 (x6_2 + 1)), (by first | rfl | (simp; done) | (simp [*]; done)), H', ⟨by have := HJ2.out; have := HK2.out; omega⟩, by repeat (first | exact Drawn0.refl _ | apply Drawn0.step)⟩
                · rw [if_neg c10] at H
                  have c10b0 : (((rd_T44 l0 x6_2).f0) == 8) = false := beq_eq_false_iff_ne.mpr c10
                  have c10b1 : (((rd_T44 l0 x6_2).f0) != 8) = true := bne_iff_ne.mpr c10
                  simp only [Option.some.injEq, Prod.mk.injEq] at H
                  obtain ⟨rfl, rfl⟩ := H
                  have p247 : 0 ≤ (x6_2 : Int) := of_decide_eq_true (by first | (with_reducible assumption) | assumption)
                  have q247 : x6_2 < (l0.length : Int) := of_decide_eq_true (by first | (with_reducible assumption) | assumption)
                  obtain ⟨ad247, e247, hx247_0, hx247_1, hx247_2, hx247_3, hx247_4, hx247_5⟩ := at_T44 HR0.out x6_2 p247 q247
                  cases e247
                  replace p247 := eq_true p247
                  replace q247 := eq_true q247
                  go_wp2
                  go_ret2
                  exact ⟨by first | rfl | (simp; done) | (simp [*]; done), by repeat (first | exact Drawn0.refl _ | apply Drawn0.step)⟩
              · rw [if_neg c9] at H
                exact absurd H (by simp)
            · rw [if_neg c8] at H
              have c8b0 : decide (x6_2 < (l0.length : Int)) = false := decide_eq_false c8
              clear c8
              simp only [Option.some.injEq, Prod.mk.injEq] at H
              obtain ⟨rfl, rfl⟩ := H
              go_wp2
              go_ret2
              exact ⟨by first | rfl | (simp; done) | (simp [*]; done), by repeat (first | exact Drawn0.refl _ | apply Drawn0.step)⟩

/-! ### stickfulref14_May: function 41 -/
def stickfulref14_May.l0 : Nat → List (S44) → Int → Int → Option (Bool)
  | 0, _, _, _ => none
  | k + 1, x0, x1, x5 => if x5 < (x0.length : Int) then (if 0 ≤ x5 then (if ((rd_T44 x0 x5).f0) = 4 then (if ((rd_T44 x0 x5).f3) < 0 then (some false) else (stickfulref14_May.l0 k x0 x1 (wrap64 (x5 + 1)))) else (stickfulref14_May.l0 k x0 x1 (wrap64 (x5 + 1)))) else (none)) else (if x1 ≥ 0 then (some (decide (x1 ≤ (x0.length : Int)))) else (some false))
def stickfulref14_May.f (k : Nat) (l0 : List (S44)) (a1 : Int) : Option (Bool) := stickfulref14_May.l0 k l0 a1 0
theorem stickfulref14_May.mono_l : ∀ k, (∀ y0 y1 y2, LeO (stickfulref14_May.l0 k y0 y1 y2) (stickfulref14_May.l0 (k + 1) y0 y1 y2))
  | 0 => fun _ _ _ r h => by simp [stickfulref14_May.l0] at h
  | k + 1 => by
    have ih0 := stickfulref14_May.mono_l k
    · intro y0 y1 y2
      unfold stickfulref14_May.l0
      repeat' first
      | (with_reducible exact ih0 _ _ _)
      | (with_reducible exact LeO.refl _)
      | (with_reducible exact LeO.none _)
      | (with_reducible refine LeO.ite ?_ ?_)
      | (with_reducible refine LeO.bind ?_ (fun _ => ?_))
      | exact ih0 _ _ _
      | exact LeO.none _
      | refine LeO.ite ?_ ?_
      | refine LeO.bind ?_ (fun _ => ?_)
theorem stickfulref14_May.mono : ∀ a0 a1 k, LeO (stickfulref14_May.f k a0 a1) (stickfulref14_May.f (k + 1) a0 a1) := by
  intro a0 a1 k
  have ih0 := stickfulref14_May.mono_l k
  unfold stickfulref14_May.f
  repeat' first
      | (with_reducible exact ih0 _ _ _)
      | (with_reducible exact LeO.refl _)
      | (with_reducible exact LeO.none _)
      | (with_reducible refine LeO.ite ?_ ?_)
      | (with_reducible refine LeO.bind ?_ (fun _ => ?_))
      | exact ih0 _ _ _
      | exact LeO.none _
      | refine LeO.ite ?_ ?_
      | refine LeO.bind ?_ (fun _ => ?_)
set_option maxHeartbeats 8000000 in
set_option maxRecDepth 100000 in
theorem stickfulref14_May.calls (k : Nat) (A0 : Option Addr) (c0 : Nat) (l0 : List (S44)) (a1 : Int) (r : Bool) (w : World) (hr0 : Kd.C k44 w A0 l0.length l0) (hc0 : l0.length ≤ c0) (h : stickfulref14_May.f k l0 a1 = some r) :
    Calls Try.prog 41 #[.slice A0 l0.length c0, .int .i64 a1] w fun e w' => e = .returned (.bool r) ∧ Drawn0 w w' := by
  have HR0 := Aside0.mk hr0
  have HC0 := Aside0.mk hc0
  clear hr0 hc0
  have H : (stickfulref14_May.l0 k l0 a1 0) = some r := h
  clear h
  have H' := Aside0.mk H
  clear H
  go_enter Try.func41, Try.ntmps41
  go_wp2
  go_loopg [5] k (fun kq v5 w' => ∃ (x5_1 : Int), v5 = .int .i64 x5_1 ∧ Aside0 (stickfulref14_May.l0 kq l0 a1 x5_1 = some r) ∧ Aside0 (kq ≤ k) ∧ Drawn0 w w')
  case atStart => exact ⟨(0), (by first | rfl | (simp; done) | (simp [*]; done)), H', ⟨Nat.le_refl _⟩, by repeat (first | exact Drawn0.refl _ | apply Drawn0.step)⟩
  case round =>
    clear H'
    try clear p2
    obtain ⟨x5_1, rfl, HA, HK1, ⟨m1, rfl⟩⟩ := hrel
    cases gk with
    | zero => exact absurd HA.out (by simp [stickfulref14_May.l0])
    | succ k1 =>
      have H := HA.out
      clear HA
      simp only [stickfulref14_May.l0] at H
      by_cases c3 : x5_1 < (l0.length : Int)
      · rw [if_pos c3] at H
        have c3b0 : decide (x5_1 < (l0.length : Int)) = true := decide_eq_true c3
        clear c3
        by_cases c4 : 0 ≤ x5_1
        · rw [if_pos c4] at H
          have c4b0 : decide (0 ≤ x5_1) = true := decide_eq_true c4
          clear c4
          by_cases c5 : ((rd_T44 l0 x5_1).f0) = 4
          · rw [if_pos c5] at H
            have c5b0 : (((rd_T44 l0 x5_1).f0) == 4) = true := beq_iff_eq.mpr c5
            have c5b1 : (((rd_T44 l0 x5_1).f0) != 4) = false := bne_eq_false_iff_eq.mpr c5
            clear c5
            by_cases c6 : ((rd_T44 l0 x5_1).f3) < 0
            · rw [if_pos c6] at H
              have c6b0 : decide (((rd_T44 l0 x5_1).f3) < 0) = true := decide_eq_true c6
              clear c6
              obtain rfl := Option.some.inj H
              have p248 : 0 ≤ (x5_1 : Int) := of_decide_eq_true (by first | (with_reducible assumption) | assumption)
              have q248 : x5_1 < (l0.length : Int) := of_decide_eq_true (by first | (with_reducible assumption) | assumption)
              obtain ⟨ad248, e248, hx248_0, hx248_1, hx248_2, hx248_3, hx248_4, hx248_5⟩ := at_T44 HR0.out x5_1 p248 q248
              cases e248
              replace p248 := eq_true p248
              replace q248 := eq_true q248
              have p249 : 0 ≤ (x5_1 : Int) := of_decide_eq_true (by first | (with_reducible assumption) | assumption)
              have q249 : x5_1 < (l0.length : Int) := of_decide_eq_true (by first | (with_reducible assumption) | assumption)
              obtain ⟨ad249, e249, hx249_0, hx249_1, hx249_2, hx249_3, hx249_4, hx249_5⟩ := at_T44 HR0.out x5_1 p249 q249
              obtain rfl : ad248 = ad249 := (by injection e249)
              replace p249 := eq_true p249
              replace q249 := eq_true q249
              go_wp2
              go_ret
              exact ⟨by first | rfl | (simp; done) | (simp [*]; done), by repeat (first | exact Drawn0.refl _ | apply Drawn0.step)⟩
            · rw [if_neg c6] at H
              have c6b0 : decide (((rd_T44 l0 x5_1).f3) < 0) = false := decide_eq_false c6
              clear c6
              have H' := Aside0.mk H
              clear H
              have p248 : 0 ≤ (x5_1 : Int) := of_decide_eq_true (by first | (with_reducible assumption) | assumption)
              have q248 : x5_1 < (l0.length : Int) := of_decide_eq_true (by first | (with_reducible assumption) | assumption)
              obtain ⟨ad248, e248, hx248_0, hx248_1, hx248_2, hx248_3, hx248_4, hx248_5⟩ := at_T44 HR0.out x5_1 p248 q248
              cases e248
              replace p248 := eq_true p248
              replace q248 := eq_true q248
              have p249 : 0 ≤ (x5_1 : Int) := of_decide_eq_true (by first | (with_reducible assumption) | assumption)
              have q249 : x5_1 < (l0.length : Int) := of_decide_eq_true (by first | (with_reducible assumption) | assumption)
              obtain ⟨ad249, e249, hx249_0, hx249_1, hx249_2, hx249_3, hx249_4, hx249_5⟩ := at_T44 HR0.out x5_1 p249 q249
              obtain rfl : ad248 = ad249 := (by injection e249)
              replace p249 := eq_true p249
              replace q249 := eq_true q249
              go_wp2
              go_roundg k1
              case measure => have := HK1.out; omega
              case rel => exact ⟨(wrap64 (x5_1 + 1)), (by first | rfl | (simp; done) | (simp [*]; done)), H', ⟨by have := HK1.out; omega⟩, by repeat (first | exact Drawn0.refl _ | apply Drawn0.step)⟩
          · rw [if_neg c5] at H
            have c5b0 : (((rd_T44 l0 x5_1).f0) == 4) = false := beq_eq_false_iff_ne.mpr c5
            have c5b1 : (((rd_T44 l0 x5_1).f0) != 4) = true := bne_iff_ne.mpr c5
            have H' := Aside0.mk H
            clear H
            have p248 : 0 ≤ (x5_1 : Int) := of_decide_eq_true (by first | (with_reducible assumption) | assumption)
            have q248 : x5_1 < (l0.length : Int) := of_decide_eq_true (by first | (with_reducible assumption) | assumption)
            obtain ⟨ad248, e248, hx248_0, hx248_1, hx248_2, hx248_3, hx248_4, hx248_5⟩ := at_T44 HR0.out x5_1 p248 q248
            cases e248
            replace p248 := eq_true p248
            replace q248 := eq_true q248
            go_wp2
            go_roundg k1
            case measure => have := HK1.out; omega
            case rel => exact ⟨(wrap64 (x5_1 + 1)), (by first | rfl | (simp; done) | (simp [*]; done)), H', ⟨by have := HK1.out; omega⟩, by repeat (first | exact Drawn0.refl _ | apply Drawn0.step)⟩
        · rw [if_neg c4] at H
          exact absurd H (by simp)
      · rw [if_neg c3] at H
        have c3b0 : decide (x5_1 < (l0.length : Int)) = false := decide_eq_false c3
        clear c3
        by_cases c7 : a1 ≥ 0
        · rw [if_pos c7] at H
          have c7b0 : decide (0 ≤ a1) = true := decide_eq_true c7
          clear c7
          obtain rfl := Option.some.inj H
          go_wp2
          go_ret
          exact ⟨by first | rfl | (simp; done) | (simp [*]; done), by repeat (first | exact Drawn0.refl _ | apply Drawn0.step)⟩
        · rw [if_neg c7] at H
          have c7b0 : decide (0 ≤ a1) = false := decide_eq_false c7
          clear c7
          obtain rfl := Option.some.inj H
          go_wp2
          go_ret
          exact ⟨by first | rfl | (simp; done) | (simp [*]; done), by repeat (first | exact Drawn0.refl _ | apply Drawn0.step)⟩

/-! ### stickfulref13_edge: function 47 -/
def stickfulref13_edge.f (a0_0 a0_1 a0_2 a0_3 : Int) (a0_4 a0_5 : Bool) : Option (Bool) := if a0_0 = 7 then (some true) else (if a0_0 = 8 then (some true) else (some (a0_0 == 5)))
set_option maxHeartbeats 8000000 in
set_option maxRecDepth 100000 in
theorem stickfulref13_edge.calls (a0_0 a0_1 a0_2 a0_3 : Int) (a0_4 a0_5 r : Bool) (w : World) (h : stickfulref13_edge.f a0_0 a0_1 a0_2 a0_3 a0_4 a0_5 = some r) :
    Calls Try.prog 47 #[.agg #[.int .u8 a0_0, .int .i64 a0_1, .int .i64 a0_2, .int .i64 a0_3, .bool a0_4, .bool a0_5]] w fun e w' => e = .returned (.bool r) ∧ Below w.heap.size w w' := by
  have hu44 := Try.underlying44
  have HB := Aside0.mk (Below.refl w.heap.size w)
  have H : (if a0_0 = 7 then (some true) else (if a0_0 = 8 then (some true) else (some (a0_0 == 5)))) = some r := h
  clear h
  by_cases c2 : a0_0 = 7
  · rw [if_pos c2] at H
    have c2b0 : (a0_0 == 7) = true := beq_iff_eq.mpr c2
    have c2b1 : (a0_0 != 7) = false := bne_eq_false_iff_eq.mpr c2
    clear c2
    obtain rfl := Option.some.inj H
    go_enter Try.func47, Try.ntmps47
    go_wp2_with (first | ((with_reducible refine gate_dst (N := 1) rfl ?_); refine box_event ?hg (N := 1) ?hd (cs := #[.int .u8 a0_0, .int .i64 a0_1, .int .i64 a0_2, .int .i64 a0_3, .bool a0_4, .bool a0_5]) (t := 44) ?hr ?_; (case hd => rfl); (case hg => rfl); (case hr => first | (go_simp; done) | (go_simp; rfl)); intro gb250 hg w3 hbox hb; have BK250 := Aside0.mk (hbox); have GW250 := bge HB hg; have GE250 := bge HB hg; replace HB := bh HB hb; clear hb hbox hg; obtain ⟨hcz4_0, hcz4_1, hcz4_2, hcz4_3, hcz4_4, hcz4_5⟩ := cz6 BK250; obtain ⟨hfz4_0, hfz4_1, hfz4_2, hfz4_3, hfz4_4, hfz4_5⟩ := fz6 BK250))
    go_ret
    exact ⟨by first | rfl | (simp [errW_none, errW_some] <;> rfl) | (simp [*, errW_none, errW_some] <;> rfl), by repeat (first | (with_reducible first | exact HB.out | apply below_alloc | apply pw_below_drewN | apply below_drew1 | refine below_set ?_ GE250.out) | exact HB.out)⟩
  · rw [if_neg c2] at H
    have c2b0 : (a0_0 == 7) = false := beq_eq_false_iff_ne.mpr c2
    have c2b1 : (a0_0 != 7) = true := bne_iff_ne.mpr c2
    by_cases c5 : a0_0 = 8
    · rw [if_pos c5] at H
      have c5b0 : (a0_0 == 8) = true := beq_iff_eq.mpr c5
      have c5b1 : (a0_0 != 8) = false := bne_eq_false_iff_eq.mpr c5
      clear c5
      obtain rfl := Option.some.inj H
      go_enter Try.func47, Try.ntmps47
      go_wp2_with (first | ((with_reducible refine gate_dst (N := 1) rfl ?_); refine box_event ?hg (N := 1) ?hd (cs := #[.int .u8 a0_0, .int .i64 a0_1, .int .i64 a0_2, .int .i64 a0_3, .bool a0_4, .bool a0_5]) (t := 44) ?hr ?_; (case hd => rfl); (case hg => rfl); (case hr => first | (go_simp; done) | (go_simp; rfl)); intro gb250 hg w6 hbox hb; have BK250 := Aside0.mk (hbox); have GW250 := bge HB hg; have GE250 := bge HB hg; replace HB := bh HB hb; clear hb hbox hg; obtain ⟨hcz7_0, hcz7_1, hcz7_2, hcz7_3, hcz7_4, hcz7_5⟩ := cz6 BK250; obtain ⟨hfz7_0, hfz7_1, hfz7_2, hfz7_3, hfz7_4, hfz7_5⟩ := fz6 BK250))
      go_ret
      exact ⟨by first | rfl | (simp [errW_none, errW_some] <;> rfl) | (simp [*, errW_none, errW_some] <;> rfl), by repeat (first | (with_reducible first | exact HB.out | apply below_alloc | apply pw_below_drewN | apply below_drew1 | refine below_set ?_ GE250.out) | exact HB.out)⟩
    · rw [if_neg c5] at H
      have c5b0 : (a0_0 == 8) = false := beq_eq_false_iff_ne.mpr c5
      have c5b1 : (a0_0 != 8) = true := bne_iff_ne.mpr c5
      obtain rfl := Option.some.inj H
      go_enter Try.func47, Try.ntmps47
      go_wp2_with (first | ((with_reducible refine gate_dst (N := 1) rfl ?_); refine box_event ?hg (N := 1) ?hd (cs := #[.int .u8 a0_0, .int .i64 a0_1, .int .i64 a0_2, .int .i64 a0_3, .bool a0_4, .bool a0_5]) (t := 44) ?hr ?_; (case hd => rfl); (case hg => rfl); (case hr => first | (go_simp; done) | (go_simp; rfl)); intro gb250 hg w8 hbox hb; have BK250 := Aside0.mk (hbox); have GW250 := bge HB hg; have GE250 := bge HB hg; replace HB := bh HB hb; clear hb hbox hg; obtain ⟨hcz9_0, hcz9_1, hcz9_2, hcz9_3, hcz9_4, hcz9_5⟩ := cz6 BK250; obtain ⟨hfz9_0, hfz9_1, hfz9_2, hfz9_3, hfz9_4, hfz9_5⟩ := fz6 BK250))
      go_ret
      exact ⟨by first | rfl | (simp [errW_none, errW_some] <;> rfl) | (simp [*, errW_none, errW_some] <;> rfl), by repeat (first | (with_reducible first | exact HB.out | apply below_alloc | apply pw_below_drewN | apply below_drew1 | refine below_set ?_ GE250.out) | exact HB.out)⟩

end Go.Proofs.Ytagdaniakfpnfaa.HFill
