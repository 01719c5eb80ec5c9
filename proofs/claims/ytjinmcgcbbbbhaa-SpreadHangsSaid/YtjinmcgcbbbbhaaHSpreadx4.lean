-- Written by this claim's own program over the kit's print.
import Derived.Test.YtjinmcgcbbbbhaaHSpreadx0
import Derived.Test.YtjinmcgcbbbbhaaHSpreadx2
import Derived.Test.YtjinmcgcbbbbhaaHSpreadx3
namespace Go.Proofs.Ytjinmcgcbbbbhaa.HSpread
open Go.RowKit Go.Proofs.YtjinmcgcbbbbhaaW.PrintWords Go.Proofs.YtjinmcgcbbbbhaaW.PrintLast Go.Proofs.YtjinmcgcbbbbhaaW.PrintMore
attribute [local go_sem] max2_int min2_int max_two min_two max_three min_three max_four min_four   -- for this text's walks alone
set_option linter.unusedVariables false
set_option linter.unusedSimpArgs false

/-! ### stickfullaw17_SpreadTells: function 7 -/
def stickfullaw17_SpreadTells.f (k : Nat) (l0 : List Int) (a1 : Int) : Option (Bool) := if (l0.length : Int) > 200 then ((stickfullaw17_head.f k).bind fun t159 => (some t159)) else ((spread_Around.f l0 a1).bind fun bt160 => ((stickfulref17_Around.f k l0 a1).bind fun bt164 => ((stickfulref17_Same.f k bt160.1 bt164.1).bind fun t168 => (if t168 = true then (if bt160.2 = bt164.2 then ((stickfullaw17_head.f k).bind fun t169 => (some t169)) else (some false)) else (some false)))))
theorem stickfullaw17_SpreadTells.mono : ∀ a0 a1 k, LeO (stickfullaw17_SpreadTells.f k a0 a1) (stickfullaw17_SpreadTells.f (k + 1) a0 a1) := by
  intro a0 a1 k
  unfold stickfullaw17_SpreadTells.f
  repeat' first
      | (with_reducible exact stickfullaw17_head.mono _)
      | (with_reducible exact stickfulref17_Around.mono _ _ _)
      | (with_reducible exact stickfulref17_Same.mono _ _ _)
      | (with_reducible exact LeO.refl _)
      | (with_reducible exact LeO.none _)
      | (with_reducible refine LeO.ite ?_ ?_)
      | (with_reducible refine LeO.bind ?_ (fun _ => ?_))
      | exact stickfullaw17_head.mono _
      | exact stickfulref17_Around.mono _ _ _
      | exact stickfulref17_Same.mono _ _ _
      | exact LeO.none _
      | refine LeO.ite ?_ ?_
      | refine LeO.bind ?_ (fun _ => ?_)
set_option maxHeartbeats 8000000 in
set_option maxRecDepth 100000 in
theorem stickfullaw17_SpreadTells.calls_t (k : Nat) (A0 : Option Addr) (c0 : Nat) (l0 : List Int) (a1 : Int) (r : Bool) (w : World) (hr0 : Kd.C (Kd.int .i64) w A0 l0.length l0) (hc0 : l0.length ≤ c0) (h : stickfullaw17_SpreadTells.f k l0 a1 = some r) (hr_ : r = true) :
    Calls Try.prog 7 #[.slice A0 l0.length c0, .int .i64 a1] w fun e w' => e = .returned (.bool r) ∧ Below w.heap.size w w' := by
  have HR_ := Aside0.mk hr_
  clear hr_
  have HR0 := Aside0.mk hr0
  have HC0 := Aside0.mk hc0
  clear hr0 hc0
  have HB := Aside0.mk (Below.refl w.heap.size w)
  have H : (if (l0.length : Int) > 200 then ((stickfullaw17_head.f k).bind fun t159 => (some t159)) else ((spread_Around.f l0 a1).bind fun bt160 => ((stickfulref17_Around.f k l0 a1).bind fun bt164 => ((stickfulref17_Same.f k bt160.1 bt164.1).bind fun t168 => (if t168 = true then (if bt160.2 = bt164.2 then ((stickfullaw17_head.f k).bind fun t169 => (some t169)) else (some false)) else (some false)))))) = some r := h
  clear h
  by_cases c3 : (l0.length : Int) > 200
  · rw [if_pos c3] at H
    have c3b0 : decide (200 < (l0.length : Int)) = true := decide_eq_true c3
    have c3b1 : decide (200 < l0.length) = true := decide_eq_true (by omega)
    clear c3
    replace H := Option.bind_eq_some_iff.mp H
    obtain ⟨t159, A40, H⟩ := H
    replace H : (some t159) = some r := H
    have A4 := Aside0.mk A40
    clear A40
    obtain rfl := Option.some.inj H
    go_enter Try.func7, Try.ntmps7
    go_wp2_with (first | ((with_reducible refine gate_callee (f := 20) rfl ?_); refine goesL_ (some 12) rfl rfl Try.func20 (by kernel_rfl) rfl #[] rfl (by (try simp only [List.map_toArray, List.map_cons, List.map_nil]); first | done | rfl | (simp only [List.length_drop, List.length_take]; rfl)) ?_; (with_reducible refine (stickfullaw17_head.calls k  t159 _ A4.out).mono ?_); rintro e w5 ⟨rfl, hb⟩; refine ⟨_, rfl, ?_⟩; have n0_ := Aside0.mk (below_step (by repeat (first | (with_reducible first | exact HB.out | apply below_alloc | apply pw_below_drewN | apply below_drew1) | exact HB.out)) hb); clear HB; have HB := n0_; clear n0_; (try clear hb); (try clear hb2); (try clear hk); (try clear hi)))
    go_ret
    exact ⟨by first | rfl | (simp [errW_none, errW_some] <;> rfl) | (simp [*, errW_none, errW_some] <;> rfl), by repeat (first | (with_reducible first | exact HB.out | apply below_alloc | apply pw_below_drewN | apply below_drew1) | exact HB.out)⟩
  · rw [if_neg c3] at H
    have c3b0 : decide (200 < (l0.length : Int)) = false := decide_eq_false c3
    have c3b1 : decide (200 < l0.length) = false := decide_eq_false (by omega)
    clear c3
    replace H := Option.bind_eq_some_iff.mp H
    obtain ⟨⟨t160, t161⟩, A60, H⟩ := H
    replace H : ((stickfulref17_Around.f k l0 a1).bind fun bt164 => ((stickfulref17_Same.f k t160 bt164.1).bind fun t168 => (if t168 = true then (if t161 = bt164.2 then ((stickfullaw17_head.f k).bind fun t169 => (some t169)) else (some false)) else (some false)))) = some r := H
    have A6 := Aside0.mk A60
    clear A60
    replace H := Option.bind_eq_some_iff.mp H
    obtain ⟨⟨t164, t165⟩, A70, H⟩ := H
    replace H : ((stickfulref17_Same.f k t160 t164).bind fun t168 => (if t168 = true then (if t161 = t165 then ((stickfullaw17_head.f k).bind fun t169 => (some t169)) else (some false)) else (some false))) = some r := H
    have A7 := Aside0.mk A70
    clear A70
    replace H := Option.bind_eq_some_iff.mp H
    obtain ⟨t168, A80, H⟩ := H
    replace H : (if t168 = true then (if t161 = t165 then ((stickfullaw17_head.f k).bind fun t169 => (some t169)) else (some false)) else (some false)) = some r := H
    have A8 := Aside0.mk A80
    clear A80
    by_cases c9 : t168 = true
    · subst c9
      have H1 : (if t161 = t165 then ((stickfullaw17_head.f k).bind fun t169 => (some t169)) else (some false)) = some r := by rw [if_pos rfl] at H; exact H
      clear H
      have H := H1
      clear H1
      by_cases c10 : t161 = t165
      · rw [if_pos c10] at H
        have c10b0 : (t161 == t165) = true := beq_iff_eq.mpr c10
        have c10b1 : (t161 != t165) = false := bne_eq_false_iff_eq.mpr c10
        clear c10
        replace H := Option.bind_eq_some_iff.mp H
        obtain ⟨t169, A110, H⟩ := H
        replace H : (some t169) = some r := H
        have A11 := Aside0.mk A110
        clear A110
        obtain rfl := Option.some.inj H
        go_enter Try.func7, Try.ntmps7
        go_wp2_with (first | ((with_reducible refine gate_callee (f := 21) rfl ?_); refine goesL_ (some 16) rfl rfl Try.func21 (by kernel_rfl) rfl #[.slice A0 l0.length c0, .int .i64 a1] rfl (by (try simp only [List.map_toArray, List.map_cons, List.map_nil]); first | done | rfl | (simp only [List.length_drop, List.length_take]; rfl)) ?_; (with_reducible refine (spread_Around.calls _ _ l0 a1 t160 t161 _ ?side1 ?side2 A6.out).mono ?_); (case side1 => repeat (first | exact HR0.out | (with_reducible refine Kd.C_alloc ?_ _) | (with_reducible refine Kd.C_drewN ?_ _) | (with_reducible refine Kd.C_drew ?_))); (case side2 => exact HC0.out); rintro e w12 ⟨v162, rfl, ho0, hb⟩; refine ⟨_, rfl, ?_⟩; have n0_ := Aside0.mk (Kd.R_lower ho0 (below_size (by repeat (first | (with_reducible first | exact HB.out | apply below_alloc | apply pw_below_drewN | apply below_drew1) | exact HB.out)))); have n1_ := Aside0.mk (below_step (by repeat (first | (with_reducible first | exact HB.out | apply below_alloc | apply pw_below_drewN | apply below_drew1) | exact HB.out)) hb); clear HB; have HO163 := n0_; have HB := n1_; clear n0_ n1_; (try clear hb); (try clear hb2); (try clear hk); (try clear hi); (try clear ho0)) | ((with_reducible refine gate_callee (f := 22) rfl ?_); refine goesL_ (some 22) rfl rfl Try.func22 (by kernel_rfl) rfl #[.slice A0 l0.length c0, .int .i64 a1] rfl (by (try simp only [List.map_toArray, List.map_cons, List.map_nil]); first | done | rfl | (simp only [List.length_drop, List.length_take]; rfl)) ?_; (with_reducible refine (stickfulref17_Around.calls k _ _ l0 a1 t164 t165 _ ?side1 ?side2 A7.out).mono ?_); (case side1 => repeat (first | exact (Kd.C_below HR0.out HB.out) | (with_reducible refine Kd.C_alloc ?_ _) | (with_reducible refine Kd.C_drewN ?_ _) | (with_reducible refine Kd.C_drew ?_))); (case side2 => exact HC0.out); rintro e w13 ⟨v166, rfl, ho0, hb⟩; refine ⟨_, rfl, ?_⟩; have n0_ := Aside0.mk (Kd.R_elder' (by (with_reducible repeat (first | apply Kd.R_alloc | apply Kd.R_drewN | apply Kd.R_drew)); exact HO163.out) (Kd.R_base ho0) hb); have n1_ := Aside0.mk (Kd.R_lower (Kd.R_new' ho0 (Kd.R_lt (by (with_reducible repeat (first | apply Kd.R_alloc | apply Kd.R_drewN | apply Kd.R_drew)); exact HO163.out))) (below_size (by repeat (first | (with_reducible first | exact HB.out | apply below_alloc | apply pw_below_drewN | apply below_drew1) | exact HB.out)))); have n2_ := Aside0.mk (below_step (by repeat (first | (with_reducible first | exact HB.out | apply below_alloc | apply pw_below_drewN | apply below_drew1) | exact HB.out)) hb); clear HO163; clear HB; have HO163 := n0_; have HO167 := n1_; have HB := n2_; clear n0_ n1_ n2_; (try clear hb); (try clear hb2); (try clear hk); (try clear hi); (try clear ho0); obtain ⟨Ao14, co14, eo14⟩ := Kd.R_slice HO163.out; subst eo14; obtain ⟨Ao15, co15, eo15⟩ := Kd.R_slice HO167.out; subst eo15) | ((with_reducible refine gate_callee (f := 23) rfl ?_); refine goesL_ (some 27) rfl rfl Try.func23 (by kernel_rfl) rfl #[.slice Ao14 t160.length co14, .slice Ao15 t164.length co15] rfl (by (try simp only [List.map_toArray, List.map_cons, List.map_nil]); first | done | rfl | (simp only [List.length_drop, List.length_take]; rfl)) ?_; (with_reducible refine (stickfulref17_Same.calls k _ _ t160 _ _ t164 true _ ?side1 ?side2 ?side3 ?side4 A8.out).mono ?_); (case side1 => repeat (first | exact (Kd.R_reads' HO163.out).2.2 | (with_reducible refine Kd.C_alloc ?_ _) | (with_reducible refine Kd.C_drewN ?_ _) | (with_reducible refine Kd.C_drew ?_))); (case side2 => exact (Kd.R_reads' HO163.out).2.1); (case side3 => repeat (first | exact (Kd.R_reads' HO167.out).2.2 | (with_reducible refine Kd.C_alloc ?_ _) | (with_reducible refine Kd.C_drewN ?_ _) | (with_reducible refine Kd.C_drew ?_))); (case side4 => exact (Kd.R_reads' HO167.out).2.1); rintro e w' ⟨rfl, ⟨nd, rfl⟩⟩; refine ⟨_, rfl, ?_⟩) | (go_at_call 20; (with_reducible refine (stickfullaw17_head.calls k  t169 _ A11.out).mono ?_); rintro e w16 ⟨rfl, hb⟩; have n0_ := Aside0.mk (Kd.R_below (by (with_reducible repeat (first | apply Kd.R_alloc | apply Kd.R_drewN | apply Kd.R_drew)); exact HO163.out) hb); have n1_ := Aside0.mk (Kd.R_below (by (with_reducible repeat (first | apply Kd.R_alloc | apply Kd.R_drewN | apply Kd.R_drew)); exact HO167.out) hb); have n2_ := Aside0.mk (below_step (by repeat (first | (with_reducible first | exact HB.out | apply below_alloc | apply pw_below_drewN | apply below_drew1) | exact HB.out)) hb); clear HO163; clear HO167; clear HB; have HO163 := n0_; have HO167 := n1_; have HB := n2_; clear n0_ n1_ n2_; (try clear hb); (try clear hb2); (try clear hk); (try clear hi)))
        go_ret
        exact ⟨by first | rfl | (simp [errW_none, errW_some] <;> rfl) | (simp [*, errW_none, errW_some] <;> rfl), by repeat (first | (with_reducible first | exact HB.out | apply below_alloc | apply pw_below_drewN | apply below_drew1) | exact HB.out)⟩
      · rw [if_neg c10] at H
        have c10b0 : (t161 == t165) = false := beq_eq_false_iff_ne.mpr c10
        have c10b1 : (t161 != t165) = true := bne_iff_ne.mpr c10
        exact absurd ((Option.some.inj H).trans HR_.out) (by decide)
    · replace c9 := Bool.eq_false_iff.mpr c9
      subst c9
      have H1 : (some false) = some r := by rw [if_neg (show ¬ (false = true) by decide)] at H; exact H
      clear H
      have H := H1
      clear H1
      exact absurd ((Option.some.inj H).trans HR_.out) (by decide)

/-- THE ONE PURE STATEMENT of stickfullaw17_SpreadTells: yours. -/
def stickfullaw17_SpreadTells.Pure : Prop := ∀ (l0 : List Int) (a1 : Int), l0.length ≤ maxLen → l0.length * 8 ≤ 140737488351232 → (∀ x ∈ l0, (Lit.int .i64 x).wf = true) → (Lit.int .i64 a1).wf = true → ∃ k, stickfullaw17_SpreadTells.f k l0 a1 = some true
theorem stickfullaw17_SpreadTells.walk (P : stickfullaw17_SpreadTells.Pure) (a0 : Option Addr) (len0 cap0 : Nat) (z0 : List Int) (a1 : Int) (w : World) (w0 : (a0 = none ∧ len0 = 0 ∧ cap0 = 0 ∧ z0 = []) ∨ ∃ x, a0 = some x ∧ len0 ≤ cap0 ∧ cap0 ≤ maxLen ∧ z0.length = cap0 ∧ (∀ i, i < z0.length → w.cell? (x.add i) = some (.int .i64 (z0.getD i 0))) ∧ ∀ n ∈ z0, (Lit.int .i64 n).wf = true) (y0 : len0 * 8 ≤ 140737488351232) (w1 : (Lit.int .i64 a1).wf = true) :
    Calls Try.prog 7 #[.slice a0 len0 cap0, .int .i64 a1] w fun e w' => e = .returned (.bool true) ∧ Below w.heap.size w w' := by
  obtain ⟨l0, rfl, hr0, hm0, hw0, hc0⟩ := ReadsInt.ofRowC w0
  obtain ⟨k, h⟩ := P l0 a1 hm0 y0 hw0 w1
  refine (stickfullaw17_SpreadTells.calls_t k _ _ l0 a1 true w (Kd.C_of_reads (d := (0 : Int)) (h1 := fun _ => rfl) hr0) hc0 h rfl).mono ?_
  rintro e w' ⟨rfl, hd⟩
  exact ⟨rfl, hd⟩

/-! ### stickfulref17_count: function 37 -/
def stickfulref17_count.f (a0 : Int) : Option (Int) := if a0 < 0 then (some 0) else (if a0 > 1073741824 then (some 1073741824) else (some a0))
set_option maxHeartbeats 8000000 in
set_option maxRecDepth 100000 in
theorem stickfulref17_count.calls (a0 : Int) (r : Int) (w : World) (h : stickfulref17_count.f a0 = some r) :
    Calls Try.prog 37 #[.int .i64 a0] w fun e w' => e = .returned (.int .i64 r) ∧ Drawn0 w w' := by
  have H : (if a0 < 0 then (some 0) else (if a0 > 1073741824 then (some 1073741824) else (some a0))) = some r := h
  clear h
  by_cases c2 : a0 < 0
  · rw [if_pos c2] at H
    have c2b0 : decide (a0 < 0) = true := decide_eq_true c2
    clear c2
    obtain rfl := Option.some.inj H
    go_enter Try.func37, Try.ntmps37
    go_wp2
    go_ret
    exact ⟨by first | rfl | (simp; done) | (simp [*]; done), by repeat (first | exact Drawn0.refl _ | apply Drawn0.step)⟩
  · rw [if_neg c2] at H
    have c2b0 : decide (a0 < 0) = false := decide_eq_false c2
    clear c2
    by_cases c3 : a0 > 1073741824
    · rw [if_pos c3] at H
      have c3b0 : decide (1073741824 < a0) = true := decide_eq_true c3
      clear c3
      obtain rfl := Option.some.inj H
      go_enter Try.func37, Try.ntmps37
      go_wp2
      go_ret
      exact ⟨by first | rfl | (simp; done) | (simp [*]; done), by repeat (first | exact Drawn0.refl _ | apply Drawn0.step)⟩
    · rw [if_neg c3] at H
      have c3b0 : decide (1073741824 < a0) = false := decide_eq_false c3
      clear c3
      obtain rfl := Option.some.inj H
      go_enter Try.func37, Try.ntmps37
      go_wp2
      go_ret
      exact ⟨by first | rfl | (simp; done) | (simp [*]; done), by repeat (first | exact Drawn0.refl _ | apply Drawn0.step)⟩

/-! ### stickfulref17_Overhang: function 36 -/
def stickfulref17_Overhang.f (a0 : Int) (a1 : Int) (a2 : Int) (a3 : Int) : Option (Int × Int) := (stickfulref17_count.f a1).bind fun t170 => ((stickfulref17_count.f a0).bind fun t171 => (if (wrap64 (t170 - t171)) ≤ 0 then (some (0, 0)) else ((stickfulref17_count.f a2).bind fun t172 => ((stickfulref17_count.f a3).bind fun t173 => (some (mn (wrap64 (Int.tdiv (wrap64 (t170 - t171)) 2)) t172, mn (wrap64 ((wrap64 (t170 - t171)) - (wrap64 (Int.tdiv (wrap64 (t170 - t171)) 2)))) t173))))))
set_option maxHeartbeats 8000000 in
set_option maxRecDepth 100000 in
theorem stickfulref17_Overhang.calls (a0 : Int) (a1 : Int) (a2 : Int) (a3 : Int) (r1 : Int) (r2 : Int) (w : World) (h : stickfulref17_Overhang.f a0 a1 a2 a3 = some (r1, r2)) :
    Calls Try.prog 36 #[.int .i64 a0, .int .i64 a1, .int .i64 a2, .int .i64 a3] w fun e w' => e = .returned (.tuple #[.int .i64 r1, .int .i64 r2]) ∧ Below w.heap.size w w' := by
  have HB := Aside0.mk (Below.refl w.heap.size w)
  have H : ((stickfulref17_count.f a1).bind fun t170 => ((stickfulref17_count.f a0).bind fun t171 => (if (wrap64 (t170 - t171)) ≤ 0 then (some (0, 0)) else ((stickfulref17_count.f a2).bind fun t172 => ((stickfulref17_count.f a3).bind fun t173 => (some (mn (wrap64 (Int.tdiv (wrap64 (t170 - t171)) 2)) t172, mn (wrap64 ((wrap64 (t170 - t171)) - (wrap64 (Int.tdiv (wrap64 (t170 - t171)) 2)))) t173))))))) = some (r1, r2) := h
  clear h
  replace H := Option.bind_eq_some_iff.mp H
  obtain ⟨t170, A50, H⟩ := H
  replace H : ((stickfulref17_count.f a0).bind fun t171 => (if (wrap64 (t170 - t171)) ≤ 0 then (some (0, 0)) else ((stickfulref17_count.f a2).bind fun t172 => ((stickfulref17_count.f a3).bind fun t173 => (some (mn (wrap64 (Int.tdiv (wrap64 (t170 - t171)) 2)) t172, mn (wrap64 ((wrap64 (t170 - t171)) - (wrap64 (Int.tdiv (wrap64 (t170 - t171)) 2)))) t173)))))) = some (r1, r2) := H
  have A5 := Aside0.mk A50
  clear A50
  replace H := Option.bind_eq_some_iff.mp H
  obtain ⟨t171, A60, H⟩ := H
  replace H : (if (wrap64 (t170 - t171)) ≤ 0 then (some (0, 0)) else ((stickfulref17_count.f a2).bind fun t172 => ((stickfulref17_count.f a3).bind fun t173 => (some (mn (wrap64 (Int.tdiv (wrap64 (t170 - t171)) 2)) t172, mn (wrap64 ((wrap64 (t170 - t171)) - (wrap64 (Int.tdiv (wrap64 (t170 - t171)) 2)))) t173))))) = some (r1, r2) := H
  have A6 := Aside0.mk A60
  clear A60
  by_cases c7 : (wrap64 (t170 - t171)) ≤ 0
  · rw [if_pos c7] at H
    have c7b0 : decide ((wrap64 (t170 - t171)) ≤ 0) = true := decide_eq_true c7
    clear c7
    simp only [Option.some.injEq, Prod.mk.injEq] at H
    obtain ⟨rfl, rfl⟩ := H
    go_enter Try.func36, Try.ntmps36
    go_wp2_with (first | ((with_reducible refine gate_callee (f := 37) rfl ?_); refine goesL_ (some 13) rfl rfl Try.func37 (by kernel_rfl) rfl #[.int .i64 a1] rfl (by (try simp only [List.map_toArray, List.map_cons, List.map_nil]); first | done | rfl | (simp only [List.length_drop, List.length_take]; rfl)) ?_; (with_reducible refine (stickfulref17_count.calls a1 t170 _ A5.out).mono ?_); rintro e w' ⟨rfl, ⟨nd, rfl⟩⟩; refine ⟨_, rfl, ?_⟩) | ((with_reducible refine gate_callee (f := 37) rfl ?_); refine goesL_ (some 15) rfl rfl Try.func37 (by kernel_rfl) rfl #[.int .i64 a0] rfl (by (try simp only [List.map_toArray, List.map_cons, List.map_nil]); first | done | rfl | (simp only [List.length_drop, List.length_take]; rfl)) ?_; (with_reducible refine (stickfulref17_count.calls a0 t171 _ A6.out).mono ?_); rintro e w' ⟨rfl, ⟨nd, rfl⟩⟩; refine ⟨_, rfl, ?_⟩))
    go_ret2
    exact ⟨by first | rfl | (simp [errW_none, errW_some] <;> rfl) | (simp [*, errW_none, errW_some] <;> rfl), by repeat (first | (with_reducible first | exact HB.out | apply below_alloc | apply pw_below_drewN | apply below_drew1) | exact HB.out)⟩
  · rw [if_neg c7] at H
    have c7b0 : decide ((wrap64 (t170 - t171)) ≤ 0) = false := decide_eq_false c7
    clear c7
    replace H := Option.bind_eq_some_iff.mp H
    obtain ⟨t172, A80, H⟩ := H
    replace H : ((stickfulref17_count.f a3).bind fun t173 => (some (mn (wrap64 (Int.tdiv (wrap64 (t170 - t171)) 2)) t172, mn (wrap64 ((wrap64 (t170 - t171)) - (wrap64 (Int.tdiv (wrap64 (t170 - t171)) 2)))) t173))) = some (r1, r2) := H
    have A8 := Aside0.mk A80
    clear A80
    obtain ⟨ji9, hji9⟩ : ∃ j_ : Int, (mn (wrap64 (Int.tdiv (wrap64 (t170 - t171)) 2)) t172) = j_ := ⟨_, rfl⟩
    replace H : ((stickfulref17_count.f a3).bind fun t173 => (some (ji9, mn (wrap64 ((wrap64 (t170 - t171)) - (wrap64 (Int.tdiv (wrap64 (t170 - t171)) 2)))) t173))) = some (r1, r2) := by first | (rw [hji9] at H; exact H) | (simp only [hji9] at H ⊢; exact H)
    (try rw [hji9] at A5)
    (try rw [hji9] at A6)
    (try rw [hji9] at A8)
    have hji9_ : (if t172 < (wrap64 (Int.tdiv (wrap64 (t170 - t171)) 2)) then t172 else (wrap64 (Int.tdiv (wrap64 (t170 - t171)) 2))) = ji9 := hji9
    replace H := Option.bind_eq_some_iff.mp H
    obtain ⟨t173, A100, H⟩ := H
    replace H : (some (ji9, mn (wrap64 ((wrap64 (t170 - t171)) - (wrap64 (Int.tdiv (wrap64 (t170 - t171)) 2)))) t173)) = some (r1, r2) := H
    have A10 := Aside0.mk A100
    clear A100
    obtain ⟨ji11, hji11⟩ : ∃ j_ : Int, (mn (wrap64 ((wrap64 (t170 - t171)) - (wrap64 (Int.tdiv (wrap64 (t170 - t171)) 2)))) t173) = j_ := ⟨_, rfl⟩
    replace H : (some (ji9, ji11)) = some (r1, r2) := by first | (rw [hji11] at H; exact H) | (simp only [hji11] at H ⊢; exact H)
    (try rw [hji11] at A5)
    (try rw [hji11] at A6)
    (try rw [hji11] at A8)
    (try rw [hji11] at A10)
    have hji11_ : (if t173 < (wrap64 ((wrap64 (t170 - t171)) - (wrap64 (Int.tdiv (wrap64 (t170 - t171)) 2)))) then t173 else (wrap64 ((wrap64 (t170 - t171)) - (wrap64 (Int.tdiv (wrap64 (t170 - t171)) 2))))) = ji11 := hji11
    simp only [Option.some.injEq, Prod.mk.injEq] at H
    obtain ⟨rfl, rfl⟩ := H
    go_enter Try.func36, Try.ntmps36
    go_wp2_with (first | ((with_reducible refine gate_callee (f := 37) rfl ?_); refine goesL_ (some 13) rfl rfl Try.func37 (by kernel_rfl) rfl #[.int .i64 a1] rfl (by (try simp only [List.map_toArray, List.map_cons, List.map_nil]); first | done | rfl | (simp only [List.length_drop, List.length_take]; rfl)) ?_; (with_reducible refine (stickfulref17_count.calls a1 t170 _ A5.out).mono ?_); rintro e w' ⟨rfl, ⟨nd, rfl⟩⟩; refine ⟨_, rfl, ?_⟩) | ((with_reducible refine gate_callee (f := 37) rfl ?_); refine goesL_ (some 15) rfl rfl Try.func37 (by kernel_rfl) rfl #[.int .i64 a0] rfl (by (try simp only [List.map_toArray, List.map_cons, List.map_nil]); first | done | rfl | (simp only [List.length_drop, List.length_take]; rfl)) ?_; (with_reducible refine (stickfulref17_count.calls a0 t171 _ A6.out).mono ?_); rintro e w' ⟨rfl, ⟨nd, rfl⟩⟩; refine ⟨_, rfl, ?_⟩) | ((with_reducible refine gate_callee (f := 37) rfl ?_); refine goesL_ (some 23) rfl rfl Try.func37 (by kernel_rfl) rfl #[.int .i64 a2] rfl (by (try simp only [List.map_toArray, List.map_cons, List.map_nil]); first | done | rfl | (simp only [List.length_drop, List.length_take]; rfl)) ?_; (with_reducible refine (stickfulref17_count.calls a2 t172 _ A8.out).mono ?_); rintro e w' ⟨rfl, ⟨nd, rfl⟩⟩; refine ⟨_, rfl, ?_⟩) | ((with_reducible refine gate_callee (f := 37) rfl ?_); refine goesL_ (some 29) rfl rfl Try.func37 (by kernel_rfl) rfl #[.int .i64 a3] rfl (by (try simp only [List.map_toArray, List.map_cons, List.map_nil]); first | done | rfl | (simp only [List.length_drop, List.length_take]; rfl)) ?_; (with_reducible refine (stickfulref17_count.calls a3 t173 _ A10.out).mono ?_); rintro e w' ⟨rfl, ⟨nd, rfl⟩⟩; refine ⟨_, rfl, ?_⟩))
    go_ret2
    exact ⟨by first | rfl | (simp [errW_none, errW_some] <;> rfl) | (simp only [← hji9, ← hji11]; first | rfl | (simp [errW_none, errW_some] <;> rfl)) | (simp [*, errW_none, errW_some] <;> rfl), by repeat (first | (with_reducible first | exact HB.out | apply below_alloc | apply pw_below_drewN | apply below_drew1) | exact HB.out)⟩

/-! ### stickfulref17_Column: function 25 -/
def stickfulref17_Column.f (a0 : Int) (a1 : Int) (a2 : Int) (a3 : Int) : Option (Int × Int × Int) := (stickfulref17_Overhang.f a0 a1 a2 a3).bind fun bt174 => ((stickfulref17_count.f a0).bind fun t176 => ((stickfulref17_count.f a1).bind fun t177 => (some (wrap64 ((wrap64 ((mx t176 t177) - bt174.1)) - bt174.2), bt174.1, bt174.2))))
set_option maxHeartbeats 8000000 in
set_option maxRecDepth 100000 in
theorem stickfulref17_Column.calls (a0 : Int) (a1 : Int) (a2 : Int) (a3 : Int) (r1 : Int) (r2 : Int) (r3 : Int) (w : World) (h : stickfulref17_Column.f a0 a1 a2 a3 = some (r1, r2, r3)) :
    Calls Try.prog 25 #[.int .i64 a0, .int .i64 a1, .int .i64 a2, .int .i64 a3] w fun e w' => e = .returned (.tuple #[.int .i64 r1, .int .i64 r2, .int .i64 r3]) ∧ Below w.heap.size w w' := by
  have HB := Aside0.mk (Below.refl w.heap.size w)
  have H : ((stickfulref17_Overhang.f a0 a1 a2 a3).bind fun bt174 => ((stickfulref17_count.f a0).bind fun t176 => ((stickfulref17_count.f a1).bind fun t177 => (some (wrap64 ((wrap64 ((mx t176 t177) - bt174.1)) - bt174.2), bt174.1, bt174.2))))) = some (r1, r2, r3) := h
  clear h
  replace H := Option.bind_eq_some_iff.mp H
  obtain ⟨⟨t174, t175⟩, A50, H⟩ := H
  replace H : ((stickfulref17_count.f a0).bind fun t176 => ((stickfulref17_count.f a1).bind fun t177 => (some (wrap64 ((wrap64 ((mx t176 t177) - t174)) - t175), t174, t175)))) = some (r1, r2, r3) := H
  have A5 := Aside0.mk A50
  clear A50
  replace H := Option.bind_eq_some_iff.mp H
  obtain ⟨t176, A60, H⟩ := H
  replace H : ((stickfulref17_count.f a1).bind fun t177 => (some (wrap64 ((wrap64 ((mx t176 t177) - t174)) - t175), t174, t175))) = some (r1, r2, r3) := H
  have A6 := Aside0.mk A60
  clear A60
  replace H := Option.bind_eq_some_iff.mp H
  obtain ⟨t177, A70, H⟩ := H
  replace H : (some (wrap64 ((wrap64 ((mx t176 t177) - t174)) - t175), t174, t175)) = some (r1, r2, r3) := H
  have A7 := Aside0.mk A70
  clear A70
  obtain ⟨ji8, hji8⟩ : ∃ j_ : Int, (mx t176 t177) = j_ := ⟨_, rfl⟩
  replace H : (some (wrap64 ((wrap64 ((ji8) - t174)) - t175), t174, t175)) = some (r1, r2, r3) := by first | (rw [hji8] at H; exact H) | (simp only [hji8] at H ⊢; exact H)
  (try rw [hji8] at A5)
  (try rw [hji8] at A6)
  (try rw [hji8] at A7)
  have hji8_ : (if t176 < t177 then t177 else t176) = ji8 := hji8
  simp only [Option.some.injEq, Prod.mk.injEq] at H
  obtain ⟨rfl, rfl, rfl⟩ := H
  go_enter Try.func25, Try.ntmps25
  go_wp2_with (first | ((with_reducible refine gate_callee (f := 36) rfl ?_); refine goesL_ (some 18) rfl rfl Try.func36 (by kernel_rfl) rfl #[.int .i64 a0, .int .i64 a1, .int .i64 a2, .int .i64 a3] rfl (by (try simp only [List.map_toArray, List.map_cons, List.map_nil]); first | done | rfl | (simp only [List.length_drop, List.length_take]; rfl)) ?_; (with_reducible refine (stickfulref17_Overhang.calls a0 a1 a2 a3 t174 t175 _ A5.out).mono ?_); rintro e w9 ⟨rfl, hb⟩; refine ⟨_, rfl, ?_⟩; have n0_ := Aside0.mk (below_step (by repeat (first | (with_reducible first | exact HB.out | apply below_alloc | apply pw_below_drewN | apply below_drew1) | exact HB.out)) hb); clear HB; have HB := n0_; clear n0_; (try clear hb); (try clear hb2); (try clear hk); (try clear hi)) | ((with_reducible refine gate_callee (f := 37) rfl ?_); refine goesL_ (some 22) rfl rfl Try.func37 (by kernel_rfl) rfl #[.int .i64 a0] rfl (by (try simp only [List.map_toArray, List.map_cons, List.map_nil]); first | done | rfl | (simp only [List.length_drop, List.length_take]; rfl)) ?_; (with_reducible refine (stickfulref17_count.calls a0 t176 _ A6.out).mono ?_); rintro e w' ⟨rfl, ⟨nd, rfl⟩⟩; refine ⟨_, rfl, ?_⟩) | ((with_reducible refine gate_callee (f := 37) rfl ?_); refine goesL_ (some 24) rfl rfl Try.func37 (by kernel_rfl) rfl #[.int .i64 a1] rfl (by (try simp only [List.map_toArray, List.map_cons, List.map_nil]); first | done | rfl | (simp only [List.length_drop, List.length_take]; rfl)) ?_; (with_reducible refine (stickfulref17_count.calls a1 t177 _ A7.out).mono ?_); rintro e w' ⟨rfl, ⟨nd, rfl⟩⟩; refine ⟨_, rfl, ?_⟩))
  go_ret3
  exact ⟨by first | rfl | (simp [errW_none, errW_some] <;> rfl) | (simp only [← hji8]; first | rfl | (simp [errW_none, errW_some] <;> rfl)) | (simp [*, errW_none, errW_some] <;> rfl), by repeat (first | (with_reducible first | exact HB.out | apply below_alloc | apply pw_below_drewN | apply below_drew1) | exact HB.out)⟩

/-! ### stickfullaw17_SpreadHangs: function 8 -/
mutual
def stickfullaw17_SpreadHangs.j0 : Nat → Int → Int → Int → Int → Int → Bool → Option (Bool)
  | 0, _, _, _, _, _, _ => none
  | k + 1, x0, x1, x7, x8, x9, x81 => if x81 = true then (some false) else (if (mn x0 x1) < 0 then (stickfullaw17_SpreadHangs.j1 k x0 x1 x7 x8 x9 true) else (stickfullaw17_SpreadHangs.j1 k x0 x1 x7 x8 x9 (decide ((mx x0 x1) > 1073741824))))
def stickfullaw17_SpreadHangs.j1 : Nat → Int → Int → Int → Int → Int → Bool → Option (Bool)
  | 0, _, _, _, _, _, _ => none
  | k + 1, x0, x1, x7, x8, x9, x91 => if x91 = true then ((stickfullaw17_head.f k).bind fun t188 => (some t188)) else ((spread_Column.f x0 x1 0 (-5)).bind fun bt189 => (if x7 ≥ x0 then (if x8 ≥ 0 then (if x9 ≥ 0 then (if (wrap64 (x8 + x9)) ≤ (mx (wrap64 (x1 - x0)) 0) then (if bt189.1 = (mx x0 x1) then (if (wrap64 (bt189.2.1 + bt189.2.2)) = 0 then (if (wrap64 ((wrap64 (x7 + x8)) + x9)) = bt189.1 then ((stickfullaw17_head.f k).bind fun t192 => (some t192)) else (some false)) else (some false)) else (some false)) else (some false)) else (some false)) else (some false)) else (some false)))
end
def stickfullaw17_SpreadHangs.f (k : Nat) (a0 : Int) (a1 : Int) (a2_0 : Int) (a2_1 : Int) : Option (Bool) := (spread_Column.f a0 a1 a2_0 a2_1).bind fun bt179 => ((stickfulref17_Column.f a0 a1 a2_0 a2_1).bind fun bt182 => ((spread_Overhang.f a0 a1 a2_0 a2_1).bind fun bt185 => (if bt179.1 = bt182.1 then (if bt179.2.1 = bt182.2.1 then (if bt179.2.2 = bt182.2.2 then (if bt185.1 = bt179.2.1 then (if bt185.2 = bt179.2.2 then ((spread_Width.f a0 a1).bind fun t187 => (stickfullaw17_SpreadHangs.j0 k a0 a1 bt179.1 bt179.2.1 bt179.2.2 (t187 != (mx (mx a0 a1) 0)))) else (stickfullaw17_SpreadHangs.j0 k a0 a1 bt179.1 bt179.2.1 bt179.2.2 true)) else (stickfullaw17_SpreadHangs.j0 k a0 a1 bt179.1 bt179.2.1 bt179.2.2 true)) else (stickfullaw17_SpreadHangs.j0 k a0 a1 bt179.1 bt179.2.1 bt179.2.2 true)) else (stickfullaw17_SpreadHangs.j0 k a0 a1 bt179.1 bt179.2.1 bt179.2.2 true)) else (stickfullaw17_SpreadHangs.j0 k a0 a1 bt179.1 bt179.2.1 bt179.2.2 true))))
theorem stickfullaw17_SpreadHangs.mono_l : ∀ k, (∀ y0 y1 y2 y3 y4 y5, LeO (stickfullaw17_SpreadHangs.j0 k y0 y1 y2 y3 y4 y5) (stickfullaw17_SpreadHangs.j0 (k + 1) y0 y1 y2 y3 y4 y5)) ∧ (∀ y0 y1 y2 y3 y4 y5, LeO (stickfullaw17_SpreadHangs.j1 k y0 y1 y2 y3 y4 y5) (stickfullaw17_SpreadHangs.j1 (k + 1) y0 y1 y2 y3 y4 y5))
  | 0 => ⟨fun _ _ _ _ _ _ r h => by simp [stickfullaw17_SpreadHangs.j0] at h, fun _ _ _ _ _ _ r h => by simp [stickfullaw17_SpreadHangs.j1] at h⟩
  | k + 1 => by
    obtain ⟨ih0, ih1⟩ := stickfullaw17_SpreadHangs.mono_l k
    refine ⟨?_, ?_⟩
    · intro y0 y1 y2 y3 y4 y5
      unfold stickfullaw17_SpreadHangs.j0
      repeat' first
      | (with_reducible exact ih0 _ _ _ _ _ _)
      | (with_reducible exact ih1 _ _ _ _ _ _)
      | (with_reducible exact stickfullaw17_head.mono _)
      | (with_reducible exact LeO.refl _)
      | (with_reducible exact LeO.none _)
      | (with_reducible refine LeO.ite ?_ ?_)
      | (with_reducible refine LeO.bind ?_ (fun _ => ?_))
      | exact ih0 _ _ _ _ _ _
      | exact ih1 _ _ _ _ _ _
      | exact stickfullaw17_head.mono _
      | exact LeO.none _
      | refine LeO.ite ?_ ?_
      | refine LeO.bind ?_ (fun _ => ?_)
    · intro y0 y1 y2 y3 y4 y5
      unfold stickfullaw17_SpreadHangs.j1
      repeat' first
      | (with_reducible exact ih0 _ _ _ _ _ _)
      | (with_reducible exact ih1 _ _ _ _ _ _)
      | (with_reducible exact stickfullaw17_head.mono _)
      | (with_reducible exact LeO.refl _)
      | (with_reducible exact LeO.none _)
      | (with_reducible refine LeO.ite ?_ ?_)
      | (with_reducible refine LeO.bind ?_ (fun _ => ?_))
      | exact ih0 _ _ _ _ _ _
      | exact ih1 _ _ _ _ _ _
      | exact stickfullaw17_head.mono _
      | exact LeO.none _
      | refine LeO.ite ?_ ?_
      | refine LeO.bind ?_ (fun _ => ?_)
theorem stickfullaw17_SpreadHangs.mono : ∀ a0 a1 a2 a3 k, LeO (stickfullaw17_SpreadHangs.f k a0 a1 a2 a3) (stickfullaw17_SpreadHangs.f (k + 1) a0 a1 a2 a3) := by
  intro a0 a1 a2 a3 k
  obtain ⟨ih0, ih1⟩ := stickfullaw17_SpreadHangs.mono_l k
  unfold stickfullaw17_SpreadHangs.f
  repeat' first
      | (with_reducible exact ih0 _ _ _ _ _ _)
      | (with_reducible exact ih1 _ _ _ _ _ _)
      | (with_reducible exact stickfullaw17_head.mono _)
      | (with_reducible exact LeO.refl _)
      | (with_reducible exact LeO.none _)
      | (with_reducible refine LeO.ite ?_ ?_)
      | (with_reducible refine LeO.bind ?_ (fun _ => ?_))
      | exact ih0 _ _ _ _ _ _
      | exact ih1 _ _ _ _ _ _
      | exact stickfullaw17_head.mono _
      | exact LeO.none _
      | refine LeO.ite ?_ ?_
      | refine LeO.bind ?_ (fun _ => ?_)
set_option maxHeartbeats 8000000 in
set_option maxRecDepth 100000 in
theorem stickfullaw17_SpreadHangs.calls_t (k : Nat) (a0 : Int) (a1 : Int) (a2_0 : Int) (a2_1 : Int) (r : Bool) (w : World) (h : stickfullaw17_SpreadHangs.f k a0 a1 a2_0 a2_1 = some r) (hr_ : r = true) :
    Calls Try.prog 8 #[.int .i64 a0, .int .i64 a1, .agg #[.int .i64 a2_0, .int .i64 a2_1]] w fun e w' => e = .returned (.bool r) ∧ Below w.heap.size w w' := by
  have hu48 := Try.underlying48
  have HR_ := Aside0.mk hr_
  clear hr_
  have HB := Aside0.mk (Below.refl w.heap.size w)
  have H : ((spread_Column.f a0 a1 a2_0 a2_1).bind fun bt179 => ((stickfulref17_Column.f a0 a1 a2_0 a2_1).bind fun bt182 => ((spread_Overhang.f a0 a1 a2_0 a2_1).bind fun bt185 => (if bt179.1 = bt182.1 then (if bt179.2.1 = bt182.2.1 then (if bt179.2.2 = bt182.2.2 then (if bt185.1 = bt179.2.1 then (if bt185.2 = bt179.2.2 then ((spread_Width.f a0 a1).bind fun t187 => (stickfullaw17_SpreadHangs.j0 k a0 a1 bt179.1 bt179.2.1 bt179.2.2 (t187 != (mx (mx a0 a1) 0)))) else (stickfullaw17_SpreadHangs.j0 k a0 a1 bt179.1 bt179.2.1 bt179.2.2 true)) else (stickfullaw17_SpreadHangs.j0 k a0 a1 bt179.1 bt179.2.1 bt179.2.2 true)) else (stickfullaw17_SpreadHangs.j0 k a0 a1 bt179.1 bt179.2.1 bt179.2.2 true)) else (stickfullaw17_SpreadHangs.j0 k a0 a1 bt179.1 bt179.2.1 bt179.2.2 true)) else (stickfullaw17_SpreadHangs.j0 k a0 a1 bt179.1 bt179.2.1 bt179.2.2 true))))) = some r := h
  clear h
  replace H := Option.bind_eq_some_iff.mp H
  obtain ⟨⟨t179, t180, t181⟩, A40, H⟩ := H
  replace H : ((stickfulref17_Column.f a0 a1 a2_0 a2_1).bind fun bt182 => ((spread_Overhang.f a0 a1 a2_0 a2_1).bind fun bt185 => (if t179 = bt182.1 then (if t180 = bt182.2.1 then (if t181 = bt182.2.2 then (if bt185.1 = t180 then (if bt185.2 = t181 then ((spread_Width.f a0 a1).bind fun t187 => (stickfullaw17_SpreadHangs.j0 k a0 a1 t179 t180 t181 (t187 != (mx (mx a0 a1) 0)))) else (stickfullaw17_SpreadHangs.j0 k a0 a1 t179 t180 t181 true)) else (stickfullaw17_SpreadHangs.j0 k a0 a1 t179 t180 t181 true)) else (stickfullaw17_SpreadHangs.j0 k a0 a1 t179 t180 t181 true)) else (stickfullaw17_SpreadHangs.j0 k a0 a1 t179 t180 t181 true)) else (stickfullaw17_SpreadHangs.j0 k a0 a1 t179 t180 t181 true)))) = some r := H
  have A4 := Aside0.mk A40
  clear A40
  replace H := Option.bind_eq_some_iff.mp H
  obtain ⟨⟨t182, t183, t184⟩, A50, H⟩ := H
  replace H : ((spread_Overhang.f a0 a1 a2_0 a2_1).bind fun bt185 => (if t179 = t182 then (if t180 = t183 then (if t181 = t184 then (if bt185.1 = t180 then (if bt185.2 = t181 then ((spread_Width.f a0 a1).bind fun t187 => (stickfullaw17_SpreadHangs.j0 k a0 a1 t179 t180 t181 (t187 != (mx (mx a0 a1) 0)))) else (stickfullaw17_SpreadHangs.j0 k a0 a1 t179 t180 t181 true)) else (stickfullaw17_SpreadHangs.j0 k a0 a1 t179 t180 t181 true)) else (stickfullaw17_SpreadHangs.j0 k a0 a1 t179 t180 t181 true)) else (stickfullaw17_SpreadHangs.j0 k a0 a1 t179 t180 t181 true)) else (stickfullaw17_SpreadHangs.j0 k a0 a1 t179 t180 t181 true))) = some r := H
  have A5 := Aside0.mk A50
  clear A50
  replace H := Option.bind_eq_some_iff.mp H
  obtain ⟨⟨t185, t186⟩, A60, H⟩ := H
  replace H : (if t179 = t182 then (if t180 = t183 then (if t181 = t184 then (if t185 = t180 then (if t186 = t181 then ((spread_Width.f a0 a1).bind fun t187 => (stickfullaw17_SpreadHangs.j0 k a0 a1 t179 t180 t181 (t187 != (mx (mx a0 a1) 0)))) else (stickfullaw17_SpreadHangs.j0 k a0 a1 t179 t180 t181 true)) else (stickfullaw17_SpreadHangs.j0 k a0 a1 t179 t180 t181 true)) else (stickfullaw17_SpreadHangs.j0 k a0 a1 t179 t180 t181 true)) else (stickfullaw17_SpreadHangs.j0 k a0 a1 t179 t180 t181 true)) else (stickfullaw17_SpreadHangs.j0 k a0 a1 t179 t180 t181 true)) = some r := H
  have A6 := Aside0.mk A60
  clear A60
  have HC7 := Aside0.mk H
  clear H
  go_enter Try.func8, Try.ntmps8
  go_upto_region 4 with (first | ((with_reducible refine gate_dst (N := 5) rfl ?_); (try (refine gate_guard (by rfl) ?_; dsimp only)); refine box_event ?hg (N := 5) ?hd (cs := #[.int .i64 a2_0, .int .i64 a2_1]) (t := 48) ?hr ?_; (case hd => rfl); (case hg => rfl); (case hr => first | (go_simp; done) | (go_simp; rfl)); intro gb178 hg w8 hbox hb; have n0_ := Aside0.mk (below_step (by repeat (first | (with_reducible first | exact HB.out | apply below_alloc | apply pw_below_drewN | apply below_drew1) | exact HB.out)) hb); have n1_ := Aside0.mk (hbox); have n2_ := Aside0.mk ((by rw [hg]; exact (below_size (by repeat (first | (with_reducible first | exact HB.out | apply below_alloc | apply pw_below_drewN | apply below_drew1) | exact HB.out))) : w.heap.size ≤ gb178)); have n3_ := Aside0.mk ((by rw [hg]; exact (below_size (by repeat (first | (with_reducible first | exact HB.out | apply below_alloc | apply pw_below_drewN | apply below_drew1) | exact HB.out))) : w.heap.size ≤ gb178)); clear HB; have HB := n0_; have BK178 := n1_; have GW178 := n2_; have GE178 := n3_; clear n0_ n1_ n2_ n3_; clear hb hbox hg; have hcz9_0 : w8.cell? ⟨gb178, 0, none⟩ = some (.int .i64 a2_0) := (blk_cell BK178.out 0).trans rfl; have hcz9_1 : w8.cell? ⟨gb178, 1, none⟩ = some (.int .i64 a2_1) := (blk_cell BK178.out 1).trans rfl; have hfz9_0 := blk_frozen BK178.out 0; have hfz9_1 := blk_frozen BK178.out 1) | ((with_reducible refine gate_callee (f := 24) rfl ?_); refine goesL_ (some 25) rfl rfl Try.func24 (by kernel_rfl) rfl #[.int .i64 a0, .int .i64 a1, .int .i64 a2_0, .int .i64 a2_1] rfl (by (try simp only [List.map_toArray, List.map_cons, List.map_nil]); first | done | rfl | (simp only [List.length_drop, List.length_take]; rfl)) ?_; (with_reducible refine (spread_Column.calls a0 a1 a2_0 a2_1 t179 t180 t181 _ A4.out).mono ?_); rintro e w10 ⟨rfl, hb⟩; refine ⟨_, rfl, ?_⟩; have n0_ := Aside0.mk (blk_below (g := gb178) (o := .cells #[.int .i64 a2_0, .int .i64 a2_1] 48 (0, 0)) (by (with_reducible repeat (first | refine blk_drewN ?_ _ | refine blk_drew ?_ | refine blk_alloc ?_ _)); exact BK178.out) hb); have n1_ := Aside0.mk (below_step (by repeat (first | (with_reducible first | exact HB.out | apply below_alloc | apply pw_below_drewN | apply below_drew1 | refine below_set ?_ GE178.out) | exact HB.out)) hb); clear BK178; clear HB; have BK178 := n0_; have HB := n1_; clear n0_ n1_; (try clear hb); (try clear hb2); (try clear hk); (try clear hi); have hcz11_0 : w10.cell? ⟨gb178, 0, none⟩ = some (.int .i64 a2_0) := (blk_cell BK178.out 0).trans rfl; have hcz11_1 : w10.cell? ⟨gb178, 1, none⟩ = some (.int .i64 a2_1) := (blk_cell BK178.out 1).trans rfl; have hfz11_0 := blk_frozen BK178.out 0; have hfz11_1 := blk_frozen BK178.out 1) | ((with_reducible refine gate_callee (f := 25) rfl ?_); refine goesL_ (some 36) rfl rfl Try.func25 (by kernel_rfl) rfl #[.int .i64 a0, .int .i64 a1, .int .i64 a2_0, .int .i64 a2_1] rfl (by (try simp only [List.map_toArray, List.map_cons, List.map_nil]); first | done | rfl | (simp only [List.length_drop, List.length_take]; rfl)) ?_; (with_reducible refine (stickfulref17_Column.calls a0 a1 a2_0 a2_1 t182 t183 t184 _ A5.out).mono ?_); rintro e w12 ⟨rfl, hb⟩; refine ⟨_, rfl, ?_⟩; have n0_ := Aside0.mk (blk_below (g := gb178) (o := .cells #[.int .i64 a2_0, .int .i64 a2_1] 48 (0, 0)) (by (with_reducible repeat (first | refine blk_drewN ?_ _ | refine blk_drew ?_ | refine blk_alloc ?_ _)); exact BK178.out) hb); have n1_ := Aside0.mk (below_step (by repeat (first | (with_reducible first | exact HB.out | apply below_alloc | apply pw_below_drewN | apply below_drew1 | refine below_set ?_ GE178.out) | exact HB.out)) hb); clear BK178; clear HB; have BK178 := n0_; have HB := n1_; clear n0_ n1_; (try clear hb); (try clear hb2); (try clear hk); (try clear hi); have hcz13_0 : w12.cell? ⟨gb178, 0, none⟩ = some (.int .i64 a2_0) := (blk_cell BK178.out 0).trans rfl; have hcz13_1 : w12.cell? ⟨gb178, 1, none⟩ = some (.int .i64 a2_1) := (blk_cell BK178.out 1).trans rfl; have hfz13_0 := blk_frozen BK178.out 0; have hfz13_1 := blk_frozen BK178.out 1) | ((with_reducible refine gate_callee (f := 26) rfl ?_); refine goesL_ (some 47) rfl rfl Try.func26 (by kernel_rfl) rfl #[.int .i64 a0, .int .i64 a1, .int .i64 a2_0, .int .i64 a2_1] rfl (by (try simp only [List.map_toArray, List.map_cons, List.map_nil]); first | done | rfl | (simp only [List.length_drop, List.length_take]; rfl)) ?_; (with_reducible refine (spread_Overhang.calls a0 a1 a2_0 a2_1 t185 t186 _ A6.out).mono ?_); rintro e w14 ⟨rfl, hb⟩; refine ⟨_, rfl, ?_⟩; have n0_ := Aside0.mk (blk_below (g := gb178) (o := .cells #[.int .i64 a2_0, .int .i64 a2_1] 48 (0, 0)) (by (with_reducible repeat (first | refine blk_drewN ?_ _ | refine blk_drew ?_ | refine blk_alloc ?_ _)); exact BK178.out) hb); have n1_ := Aside0.mk (below_step (by repeat (first | (with_reducible first | exact HB.out | apply below_alloc | apply pw_below_drewN | apply below_drew1 | refine below_set ?_ GE178.out) | exact HB.out)) hb); clear BK178; clear HB; have BK178 := n0_; have HB := n1_; clear n0_ n1_; (try clear hb); (try clear hb2); (try clear hk); (try clear hi)))
  (try simp only [Act.put, List.setIfInBounds_toArray, List.set_cons_zero, List.set_cons_succ])
  go_cut [81] (fun v81 wc => ∃ (kq : Nat) (x81_6 : Bool), v81 = .bool x81_6 ∧ Aside0 (stickfullaw17_SpreadHangs.j0 kq a0 a1 t179 t180 t181 x81_6 = some r) ∧ Aside0 (kq ≤ k) ∧ Aside0 (wc.heap[gb178]? = some (.cells #[.int .i64 a2_0, .int .i64 a2_1] 48 (0, 0))) ∧ Aside0 (Below w.heap.size w wc))
  case first =>
    have H := HC7.out
    clear HC7
    by_cases c15 : t179 = t182
    · rw [if_pos c15] at H
      have c15b0 : (t179 == t182) = true := beq_iff_eq.mpr c15
      have c15b1 : (t179 != t182) = false := bne_eq_false_iff_eq.mpr c15
      clear c15
      (first | rw [c15b0] | (simp only [i64_w, i32_w]; rw [c15b0]) | skip)
      by_cases c16 : t180 = t183
      · rw [if_pos c16] at H
        have c16b0 : (t180 == t183) = true := beq_iff_eq.mpr c16
        have c16b1 : (t180 != t183) = false := bne_eq_false_iff_eq.mpr c16
        clear c16
        by_cases c17 : t181 = t184
        · rw [if_pos c17] at H
          have c17b0 : (t181 == t184) = true := beq_iff_eq.mpr c17
          have c17b1 : (t181 != t184) = false := bne_eq_false_iff_eq.mpr c17
          clear c17
          by_cases c18 : t185 = t180
          · rw [if_pos c18] at H
            have c18b0 : (t185 == t180) = true := beq_iff_eq.mpr c18
            have c18b1 : (t185 != t180) = false := bne_eq_false_iff_eq.mpr c18
            clear c18
            by_cases c19 : t186 = t181
            · rw [if_pos c19] at H
              have c19b0 : (t186 == t181) = true := beq_iff_eq.mpr c19
              have c19b1 : (t186 != t181) = false := bne_eq_false_iff_eq.mpr c19
              clear c19
              replace H := Option.bind_eq_some_iff.mp H
              obtain ⟨t187, A200, H⟩ := H
              replace H : (stickfullaw17_SpreadHangs.j0 k a0 a1 t179 t180 t181 (t187 != (mx (mx a0 a1) 0))) = some r := H
              have A20 := Aside0.mk A200
              clear A200
              obtain ⟨ji21, hji21⟩ : ∃ j_ : Int, (mx a0 a1) = j_ := ⟨_, rfl⟩
              replace H : (stickfullaw17_SpreadHangs.j0 k a0 a1 t179 t180 t181 (t187 != (mx (ji21) 0))) = some r := by first | (rw [hji21] at H; exact H) | (simp only [hji21] at H ⊢; exact H)
              (try rw [hji21] at A20)
              have hji21_ : (if a0 < a1 then a1 else a0) = ji21 := hji21
              obtain ⟨ji22, hji22⟩ : ∃ j_ : Int, (mx (ji21) 0) = j_ := ⟨_, rfl⟩
              replace H : (stickfullaw17_SpreadHangs.j0 k a0 a1 t179 t180 t181 (t187 != (ji22))) = some r := by first | (rw [hji22] at H; exact H) | (simp only [hji22] at H ⊢; exact H)
              (try rw [hji22] at A20)
              have hji22_ : (if (ji21) < 0 then 0 else (ji21)) = ji22 := hji22
              have H' := Aside0.mk H
              clear H
              go_wp2_with (first | (go_at_call 27; (with_reducible refine (spread_Width.calls a0 a1 t187 _ A20.out).mono ?_); rintro e w23 ⟨rfl, hb⟩; have n0_ := Aside0.mk (blk_below (g := gb178) (o := .cells #[.int .i64 a2_0, .int .i64 a2_1] 48 (0, 0)) (by (with_reducible repeat (first | refine blk_drewN ?_ _ | refine blk_drew ?_ | refine blk_alloc ?_ _)); exact BK178.out) hb); have n1_ := Aside0.mk (below_step (by repeat (first | (with_reducible first | exact HB.out | apply below_alloc | apply pw_below_drewN | apply below_drew1 | refine below_set ?_ GE178.out) | exact HB.out)) hb); clear BK178; clear HB; have BK178 := n0_; have HB := n1_; clear n0_ n1_; (try clear hb); (try clear hb2); (try clear hk); (try clear hi)))
              go_meet
              case rel => exact ⟨_, ((t187 != (ji22))), (by first | rfl | (simp; done) | (simp only [← hji22] <;> (first | rfl | simp)) | (simp [*]; done)), H', ⟨by first | omega | exact Nat.le_refl _⟩, ⟨by (with_reducible repeat (first | refine blk_drewN ?_ _ | refine blk_drew ?_ | refine blk_alloc ?_ _)); exact BK178.out⟩, ⟨by repeat (first | (with_reducible first | exact HB.out | apply below_alloc | apply pw_below_drewN | apply below_drew1 | refine below_set ?_ GE178.out) | exact HB.out)⟩⟩
            · rw [if_neg c19] at H
              have c19b0 : (t186 == t181) = false := beq_eq_false_iff_ne.mpr c19
              have c19b1 : (t186 != t181) = true := bne_iff_ne.mpr c19
              have H' := Aside0.mk H
              clear H
              go_wp2
              go_meet
              case rel => exact ⟨_, (true), (by first | rfl | (simp; done) | (simp [*]; done)), H', ⟨by first | omega | exact Nat.le_refl _⟩, ⟨by (with_reducible repeat (first | refine blk_drewN ?_ _ | refine blk_drew ?_ | refine blk_alloc ?_ _)); exact BK178.out⟩, ⟨by repeat (first | (with_reducible first | exact HB.out | apply below_alloc | apply pw_below_drewN | apply below_drew1 | refine below_set ?_ GE178.out) | exact HB.out)⟩⟩
          · rw [if_neg c18] at H
            have c18b0 : (t185 == t180) = false := beq_eq_false_iff_ne.mpr c18
            have c18b1 : (t185 != t180) = true := bne_iff_ne.mpr c18
            have H' := Aside0.mk H
            clear H
            go_wp2
            go_meet
            case rel => exact ⟨_, (true), (by first | rfl | (simp; done) | (simp [*]; done)), H', ⟨by first | omega | exact Nat.le_refl _⟩, ⟨by (with_reducible repeat (first | refine blk_drewN ?_ _ | refine blk_drew ?_ | refine blk_alloc ?_ _)); exact BK178.out⟩, ⟨by repeat (first | (with_reducible first | exact HB.out | apply below_alloc | apply pw_below_drewN | apply below_drew1 | refine below_set ?_ GE178.out) | exact HB.out)⟩⟩
        · rw [if_neg c17] at H
          have c17b0 : (t181 == t184) = false := beq_eq_false_iff_ne.mpr c17
          have c17b1 : (t181 != t184) = true := bne_iff_ne.mpr c17
          have H' := Aside0.mk H
          clear H
          go_wp2
          go_meet
          case rel => exact ⟨_, (true), (by first | rfl | (simp; done) | (simp [*]; done)), H', ⟨by first | omega | exact Nat.le_refl _⟩, ⟨by (with_reducible repeat (first | refine blk_drewN ?_ _ | refine blk_drew ?_ | refine blk_alloc ?_ _)); exact BK178.out⟩, ⟨by repeat (first | (with_reducible first | exact HB.out | apply below_alloc | apply pw_below_drewN | apply below_drew1 | refine below_set ?_ GE178.out) | exact HB.out)⟩⟩
      · rw [if_neg c16] at H
        have c16b0 : (t180 == t183) = false := beq_eq_false_iff_ne.mpr c16
        have c16b1 : (t180 != t183) = true := bne_iff_ne.mpr c16
        have H' := Aside0.mk H
        clear H
        go_wp2
        go_meet
        case rel => exact ⟨_, (true), (by first | rfl | (simp; done) | (simp [*]; done)), H', ⟨by first | omega | exact Nat.le_refl _⟩, ⟨by (with_reducible repeat (first | refine blk_drewN ?_ _ | refine blk_drew ?_ | refine blk_alloc ?_ _)); exact BK178.out⟩, ⟨by repeat (first | (with_reducible first | exact HB.out | apply below_alloc | apply pw_below_drewN | apply below_drew1 | refine below_set ?_ GE178.out) | exact HB.out)⟩⟩
    · rw [if_neg c15] at H
      have c15b0 : (t179 == t182) = false := beq_eq_false_iff_ne.mpr c15
      have c15b1 : (t179 != t182) = true := bne_iff_ne.mpr c15
      (first | rw [c15b0] | (simp only [i64_w, i32_w]; rw [c15b0]) | skip)
      have H' := Aside0.mk H
      clear H
      go_wp2
      go_meet
      case rel => exact ⟨_, (true), (by first | rfl | (simp; done) | (simp [*]; done)), H', ⟨by first | omega | exact Nat.le_refl _⟩, ⟨by (with_reducible repeat (first | refine blk_drewN ?_ _ | refine blk_drew ?_ | refine blk_alloc ?_ _)); exact BK178.out⟩, ⟨by repeat (first | (with_reducible first | exact HB.out | apply below_alloc | apply pw_below_drewN | apply below_drew1 | refine below_set ?_ GE178.out) | exact HB.out)⟩⟩
  case rest =>
    clear HC7
    try clear c1
    try clear c2
    try clear p2
    try clear c8
    try clear c15
    try clear c15b0
    try clear c15b1
    try clear c16
    try clear c16b0
    try clear c16b1
    try clear c17
    try clear c17b0
    try clear c17b1
    try clear c18
    try clear c18b0
    try clear c18b1
    try clear c19
    try clear c19b0
    try clear c19b1
    try clear hcz11_0
    try clear hcz11_1
    try clear hcz13_0
    try clear hcz13_1
    try clear hcz9_0
    try clear hcz9_1
    try clear hfz11_0
    try clear hfz11_1
    try clear hfz13_0
    try clear hfz13_1
    try clear hfz9_0
    try clear hfz9_1
    obtain ⟨kq, x81_6, rfl, HA, HJ6, BK178, HB⟩ := hcut
    cases kq with
    | zero => exact absurd HA.out (by simp [stickfullaw17_SpreadHangs.j0])
    | succ kj6 =>
      have H := HA.out
      clear HA
      simp only [stickfullaw17_SpreadHangs.j0] at H
      by_cases c24 : x81_6 = true
      · subst c24
        have H1 : (some false) = some r := by rw [if_pos rfl] at H; exact H
        clear H
        have H := H1
        clear H1
        exact absurd ((Option.some.inj H).trans HR_.out) (by decide)
      · replace c24 := Bool.eq_false_iff.mpr c24
        subst c24
        have H1 : (if (mn a0 a1) < 0 then (stickfullaw17_SpreadHangs.j1 kj6 a0 a1 t179 t180 t181 true) else (stickfullaw17_SpreadHangs.j1 kj6 a0 a1 t179 t180 t181 (decide ((mx a0 a1) > 1073741824)))) = some r := by rw [if_neg (show ¬ (false = true) by decide)] at H; exact H
        clear H
        have H := H1
        clear H1
        have HC25 := Aside0.mk H
        clear H
        go_upto_region 6 with (fail)
        go_cut [91] (fun v91 wc => ∃ (kq : Nat) (x91_24 : Bool), v91 = .bool x91_24 ∧ Aside0 (stickfullaw17_SpreadHangs.j1 kq a0 a1 t179 t180 t181 x91_24 = some r) ∧ Aside0 (kq ≤ kj6) ∧ Aside0 (wc.heap[gb178]? = some (.cells #[.int .i64 a2_0, .int .i64 a2_1] 48 (0, 0))) ∧ Aside0 (Below w.heap.size w wc))
        case first =>
          have H := HC25.out
          clear HC25
          obtain ⟨ji26, hji26⟩ : ∃ j_ : Int, (mn a0 a1) = j_ := ⟨_, rfl⟩
          replace H : (if (ji26) < 0 then (stickfullaw17_SpreadHangs.j1 kj6 a0 a1 t179 t180 t181 true) else (stickfullaw17_SpreadHangs.j1 kj6 a0 a1 t179 t180 t181 (decide ((mx a0 a1) > 1073741824)))) = some r := by first | (rw [hji26] at H; exact H) | (simp only [hji26] at H ⊢; exact H)
          have hji26_ : (if a1 < a0 then a1 else a0) = ji26 := hji26
          by_cases c27 : (ji26) < 0
          · rw [if_pos c27] at H
            have c27b0 : decide ((ji26) < 0) = true := decide_eq_true c27
            clear c27
            (first | rw [c27b0] | (simp only [i64_w, i32_w]; rw [c27b0]) | skip)
            have H' := Aside0.mk H
            clear H
            go_wp2
            go_meet
            case rel => exact ⟨_, (true), (by first | rfl | (simp; done) | (simp [*]; done)), H', ⟨by have := HJ6.out; first | omega | exact Nat.le_refl _⟩, ⟨by (with_reducible repeat (first | refine blk_drewN ?_ _ | refine blk_drew ?_ | refine blk_alloc ?_ _)); exact BK178.out⟩, ⟨by repeat (first | (with_reducible first | exact HB.out | apply below_alloc | apply pw_below_drewN | apply below_drew1 | refine below_set ?_ GE178.out) | exact HB.out)⟩⟩
          · rw [if_neg c27] at H
            have c27b0 : decide ((ji26) < 0) = false := decide_eq_false c27
            clear c27
            (first | rw [c27b0] | (simp only [i64_w, i32_w]; rw [c27b0]) | skip)
            obtain ⟨ji28, hji28⟩ : ∃ j_ : Int, (mx a0 a1) = j_ := ⟨_, rfl⟩
            replace H : (stickfullaw17_SpreadHangs.j1 kj6 a0 a1 t179 t180 t181 (decide ((ji28) > 1073741824))) = some r := by first | (rw [hji28] at H; exact H) | (simp only [hji28] at H ⊢; exact H)
            have hji28_ : (if a0 < a1 then a1 else a0) = ji28 := hji28
            have H' := Aside0.mk H
            clear H
            go_wp2
            go_meet
            case rel => exact ⟨_, (decide ((ji28) > 1073741824)), (by first | rfl | (simp; done) | (simp only [← hji28] <;> (first | rfl | simp)) | (simp [*]; done)), H', ⟨by have := HJ6.out; first | omega | exact Nat.le_refl _⟩, ⟨by (with_reducible repeat (first | refine blk_drewN ?_ _ | refine blk_drew ?_ | refine blk_alloc ?_ _)); exact BK178.out⟩, ⟨by repeat (first | (with_reducible first | exact HB.out | apply below_alloc | apply pw_below_drewN | apply below_drew1 | refine below_set ?_ GE178.out) | exact HB.out)⟩⟩
        case rest =>
          clear HC25
          try clear c1
          try clear c2
          try clear p2
          try clear c8
          try clear c15
          try clear c15b0
          try clear c15b1
          try clear c16
          try clear c16b0
          try clear c16b1
          try clear c17
          try clear c17b0
          try clear c17b1
          try clear c18
          try clear c18b0
          try clear c18b1
          try clear c19
          try clear c19b0
          try clear c19b1
          try clear c24
          try clear c25
          try clear c26
          try clear c27
          try clear c27b0
          try clear hcz11_0
          try clear hcz11_1
          try clear hcz13_0
          try clear hcz13_1
          try clear hcz9_0
          try clear hcz9_1
          try clear hfz11_0
          try clear hfz11_1
          try clear hfz13_0
          try clear hfz13_1
          try clear hfz9_0
          try clear hfz9_1
          try clear p2
          obtain ⟨kq, x91_24, rfl, HA, HJ24, BK178, HB⟩ := hcut
          cases kq with
          | zero => exact absurd HA.out (by simp [stickfullaw17_SpreadHangs.j1])
          | succ kj24 =>
            have H := HA.out
            clear HA
            simp only [stickfullaw17_SpreadHangs.j1] at H
            by_cases c29 : x91_24 = true
            · subst c29
              have H1 : ((stickfullaw17_head.f kj24).bind fun t188 => (some t188)) = some r := by rw [if_pos rfl] at H; exact H
              clear H
              have H := H1
              clear H1
              replace H := Option.bind_eq_some_iff.mp H
              obtain ⟨t188, A300, H⟩ := H
              replace H : (some t188) = some r := H
              have A30 := Aside0.mk A300
              clear A300
              obtain rfl := Option.some.inj H
              go_wp2_with (first | ((with_reducible refine gate_callee (f := 20) rfl ?_); refine goesL_ (some 92) rfl rfl Try.func20 (by kernel_rfl) rfl #[] rfl (by (try simp only [List.map_toArray, List.map_cons, List.map_nil]); first | done | rfl | (simp only [List.length_drop, List.length_take]; rfl)) ?_; (with_reducible refine (stickfullaw17_head.calls kj24  t188 _ A30.out).mono ?_); rintro e w31 ⟨rfl, hb⟩; refine ⟨_, rfl, ?_⟩; have n0_ := Aside0.mk (blk_below (g := gb178) (o := .cells #[.int .i64 a2_0, .int .i64 a2_1] 48 (0, 0)) (by (with_reducible repeat (first | refine blk_drewN ?_ _ | refine blk_drew ?_ | refine blk_alloc ?_ _)); exact BK178.out) hb); have n1_ := Aside0.mk (below_step (by repeat (first | (with_reducible first | exact HB.out | apply below_alloc | apply pw_below_drewN | apply below_drew1 | refine below_set ?_ GE178.out) | exact HB.out)) hb); clear BK178; clear HB; have BK178 := n0_; have HB := n1_; clear n0_ n1_; (try clear hb); (try clear hb2); (try clear hk); (try clear hi)))
              go_ret
              exact ⟨by first | rfl | (simp [errW_none, errW_some] <;> rfl) | (simp [*, errW_none, errW_some] <;> rfl), by repeat (first | (with_reducible first | exact HB.out | apply below_alloc | apply pw_below_drewN | apply below_drew1 | refine below_set ?_ GE178.out) | exact HB.out)⟩
            · replace c29 := Bool.eq_false_iff.mpr c29
              subst c29
              have H1 : ((spread_Column.f a0 a1 0 (-5)).bind fun bt189 => (if t179 ≥ a0 then (if t180 ≥ 0 then (if t181 ≥ 0 then (if (wrap64 (t180 + t181)) ≤ (mx (wrap64 (a1 - a0)) 0) then (if bt189.1 = (mx a0 a1) then (if (wrap64 (bt189.2.1 + bt189.2.2)) = 0 then (if (wrap64 ((wrap64 (t179 + t180)) + t181)) = bt189.1 then ((stickfullaw17_head.f kj24).bind fun t192 => (some t192)) else (some false)) else (some false)) else (some false)) else (some false)) else (some false)) else (some false)) else (some false))) = some r := by rw [if_neg (show ¬ (false = true) by decide)] at H; exact H
              clear H
              have H := H1
              clear H1
              replace H := Option.bind_eq_some_iff.mp H
              obtain ⟨⟨t189, t190, t191⟩, A320, H⟩ := H
              replace H : (if t179 ≥ a0 then (if t180 ≥ 0 then (if t181 ≥ 0 then (if (wrap64 (t180 + t181)) ≤ (mx (wrap64 (a1 - a0)) 0) then (if t189 = (mx a0 a1) then (if (wrap64 (t190 + t191)) = 0 then (if (wrap64 ((wrap64 (t179 + t180)) + t181)) = t189 then ((stickfullaw17_head.f kj24).bind fun t192 => (some t192)) else (some false)) else (some false)) else (some false)) else (some false)) else (some false)) else (some false)) else (some false)) = some r := H
              have A32 := Aside0.mk A320
              clear A320
              by_cases c33 : t179 ≥ a0
              · rw [if_pos c33] at H
                have c33b0 : decide (a0 ≤ t179) = true := decide_eq_true c33
                clear c33
                by_cases c34 : t180 ≥ 0
                · rw [if_pos c34] at H
                  have c34b0 : decide (0 ≤ t180) = true := decide_eq_true c34
                  clear c34
                  by_cases c35 : t181 ≥ 0
                  · rw [if_pos c35] at H
                    have c35b0 : decide (0 ≤ t181) = true := decide_eq_true c35
                    clear c35
                    obtain ⟨ji36, hji36⟩ : ∃ j_ : Int, (mx (wrap64 (a1 - a0)) 0) = j_ := ⟨_, rfl⟩
                    replace H : (if (wrap64 (t180 + t181)) ≤ (ji36) then (if t189 = (mx a0 a1) then (if (wrap64 (t190 + t191)) = 0 then (if (wrap64 ((wrap64 (t179 + t180)) + t181)) = t189 then ((stickfullaw17_head.f kj24).bind fun t192 => (some t192)) else (some false)) else (some false)) else (some false)) else (some false)) = some r := by first | (rw [hji36] at H; exact H) | (simp only [hji36] at H ⊢; exact H)
                    (try rw [hji36] at A32)
                    have hji36_ : (if (wrap64 (a1 - a0)) < 0 then 0 else (wrap64 (a1 - a0))) = ji36 := hji36
                    by_cases c37 : (wrap64 (t180 + t181)) ≤ (ji36)
                    · rw [if_pos c37] at H
                      have c37b0 : decide ((wrap64 (t180 + t181)) ≤ (ji36)) = true := decide_eq_true c37
                      clear c37
                      obtain ⟨ji38, hji38⟩ : ∃ j_ : Int, (mx a0 a1) = j_ := ⟨_, rfl⟩
                      replace H : (if t189 = (ji38) then (if (wrap64 (t190 + t191)) = 0 then (if (wrap64 ((wrap64 (t179 + t180)) + t181)) = t189 then ((stickfullaw17_head.f kj24).bind fun t192 => (some t192)) else (some false)) else (some false)) else (some false)) = some r := by first | (rw [hji38] at H; exact H) | (simp only [hji38] at H ⊢; exact H)
                      (try rw [hji38] at A32)
                      have hji38_ : (if a0 < a1 then a1 else a0) = ji38 := hji38
                      by_cases c39 : t189 = (ji38)
                      · rw [if_pos c39] at H
                        have c39b0 : (t189 == (ji38)) = true := beq_iff_eq.mpr c39
                        have c39b1 : (t189 != (ji38)) = false := bne_eq_false_iff_eq.mpr c39
                        clear c39
                        by_cases c40 : (wrap64 (t190 + t191)) = 0
                        · rw [if_pos c40] at H
                          have c40b0 : ((wrap64 (t190 + t191)) == 0) = true := beq_iff_eq.mpr c40
                          have c40b1 : ((wrap64 (t190 + t191)) != 0) = false := bne_eq_false_iff_eq.mpr c40
                          clear c40
                          by_cases c41 : (wrap64 ((wrap64 (t179 + t180)) + t181)) = t189
                          · rw [if_pos c41] at H
                            have c41b0 : ((wrap64 ((wrap64 (t179 + t180)) + t181)) == t189) = true := beq_iff_eq.mpr c41
                            have c41b1 : ((wrap64 ((wrap64 (t179 + t180)) + t181)) != t189) = false := bne_eq_false_iff_eq.mpr c41
                            clear c41
                            replace H := Option.bind_eq_some_iff.mp H
                            obtain ⟨t192, A420, H⟩ := H
                            replace H : (some t192) = some r := H
                            have A42 := Aside0.mk A420
                            clear A420
                            obtain rfl := Option.some.inj H
                            go_wp2_with (first | ((with_reducible refine gate_callee (f := 24) rfl ?_); refine goesL_ (some 96) rfl rfl Try.func24 (by kernel_rfl) rfl #[.int .i64 a0, .int .i64 a1, .int .i64 0, .int .i64 (-5)] rfl (by (try simp only [List.map_toArray, List.map_cons, List.map_nil]); first | done | rfl | (simp only [List.length_drop, List.length_take]; rfl)) ?_; (with_reducible refine (spread_Column.calls a0 a1 0 (-5) t189 t190 t191 _ A32.out).mono ?_); rintro e w43 ⟨rfl, hb⟩; refine ⟨_, rfl, ?_⟩; have n0_ := Aside0.mk (blk_below (g := gb178) (o := .cells #[.int .i64 a2_0, .int .i64 a2_1] 48 (0, 0)) (by (with_reducible repeat (first | refine blk_drewN ?_ _ | refine blk_drew ?_ | refine blk_alloc ?_ _)); exact BK178.out) hb); have n1_ := Aside0.mk (below_step (by repeat (first | (with_reducible first | exact HB.out | apply below_alloc | apply pw_below_drewN | apply below_drew1 | refine below_set ?_ GE178.out) | exact HB.out)) hb); clear BK178; clear HB; have BK178 := n0_; have HB := n1_; clear n0_ n1_; (try clear hb); (try clear hb2); (try clear hk); (try clear hi)) | (go_at_call 20; (with_reducible refine (stickfullaw17_head.calls kj24  t192 _ A42.out).mono ?_); rintro e w44 ⟨rfl, hb⟩; have n0_ := Aside0.mk (blk_below (g := gb178) (o := .cells #[.int .i64 a2_0, .int .i64 a2_1] 48 (0, 0)) (by (with_reducible repeat (first | refine blk_drewN ?_ _ | refine blk_drew ?_ | refine blk_alloc ?_ _)); exact BK178.out) hb); have n1_ := Aside0.mk (below_step (by repeat (first | (with_reducible first | exact HB.out | apply below_alloc | apply pw_below_drewN | apply below_drew1 | refine below_set ?_ GE178.out) | exact HB.out)) hb); clear BK178; clear HB; have BK178 := n0_; have HB := n1_; clear n0_ n1_; (try clear hb); (try clear hb2); (try clear hk); (try clear hi)))
                            go_ret
                            exact ⟨by first | rfl | (simp [errW_none, errW_some] <;> rfl) | (simp only [← hji36, ← hji38]; first | rfl | (simp [errW_none, errW_some] <;> rfl)) | (simp [*, errW_none, errW_some] <;> rfl), by repeat (first | (with_reducible first | exact HB.out | apply below_alloc | apply pw_below_drewN | apply below_drew1 | refine below_set ?_ GE178.out) | exact HB.out)⟩
                          · rw [if_neg c41] at H
                            have c41b0 : ((wrap64 ((wrap64 (t179 + t180)) + t181)) == t189) = false := beq_eq_false_iff_ne.mpr c41
                            have c41b1 : ((wrap64 ((wrap64 (t179 + t180)) + t181)) != t189) = true := bne_iff_ne.mpr c41
                            exact absurd ((Option.some.inj H).trans HR_.out) (by decide)
                        · rw [if_neg c40] at H
                          have c40b0 : ((wrap64 (t190 + t191)) == 0) = false := beq_eq_false_iff_ne.mpr c40
                          have c40b1 : ((wrap64 (t190 + t191)) != 0) = true := bne_iff_ne.mpr c40
                          exact absurd ((Option.some.inj H).trans HR_.out) (by decide)
                      · rw [if_neg c39] at H
                        have c39b0 : (t189 == (ji38)) = false := beq_eq_false_iff_ne.mpr c39
                        have c39b1 : (t189 != (ji38)) = true := bne_iff_ne.mpr c39
                        exact absurd ((Option.some.inj H).trans HR_.out) (by decide)
                    · rw [if_neg c37] at H
                      have c37b0 : decide ((wrap64 (t180 + t181)) ≤ (ji36)) = false := decide_eq_false c37
                      clear c37
                      exact absurd ((Option.some.inj H).trans HR_.out) (by decide)
                  · rw [if_neg c35] at H
                    have c35b0 : decide (0 ≤ t181) = false := decide_eq_false c35
                    clear c35
                    exact absurd ((Option.some.inj H).trans HR_.out) (by decide)
                · rw [if_neg c34] at H
                  have c34b0 : decide (0 ≤ t180) = false := decide_eq_false c34
                  clear c34
                  exact absurd ((Option.some.inj H).trans HR_.out) (by decide)
              · rw [if_neg c33] at H
                have c33b0 : decide (a0 ≤ t179) = false := decide_eq_false c33
                clear c33
                exact absurd ((Option.some.inj H).trans HR_.out) (by decide)

end Go.Proofs.Ytjinmcgcbbbbhaa.HSpread
