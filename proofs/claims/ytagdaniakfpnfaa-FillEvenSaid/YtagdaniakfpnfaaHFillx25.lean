-- Written by this claim's own program over the kit's print.
import Derived.Test.YtagdaniakfpnfaaHFillb
import Derived.Test.YtagdaniakfpnfaaHFillx0
import Derived.Test.YtagdaniakfpnfaaHFillx1
import Derived.Test.YtagdaniakfpnfaaHFillx14
import Derived.Test.YtagdaniakfpnfaaHFillx15
import Derived.Test.YtagdaniakfpnfaaHand3
import Derived.Test.YtagdaniakfpnfaaHand4
import Derived.StillTailTactics
import Derived.Laws.Externs
import Derived.BigFrameIn
import Derived.Lib.Hide
import Derived.Test.YtagdaniakfpnfaaHand9
import Derived.Sort.LoopGhostIn
import Derived.BigQuiet
namespace Go.Proofs.Ytagdaniakfpnfaa.HFill
open Go.RowKit Go.Proofs.YtagdaniakfpnfaaW.PrintWords Go.Proofs.YtagdaniakfpnfaaW.PrintLast Go.Proofs.YtagdaniakfpnfaaW.PrintMore Go.Proofs.Ytagdaniakfpnfaa.Hand
attribute [local go_sem] max2_int min2_int max_two min_two max_three min_three max_four min_four   -- for this text's walks alone
set_option linter.unusedVariables false
set_option linter.unusedSimpArgs false

attribute [local go_sem high] eqA35
/-! ### stickfullaw14_FillEven: function 7 -/
mutual
def stickfullaw14_FillEven.j0 : Nat → Int → Int → Int → Bool → Bool → Option (Bool)
  | 0, _, _, _, _, _ => none
  | k + 1, x3, x4, x5, x6, x32 => if x32 = true then ((stickfullaw14_head.f k).bind fun t518 => (some t518)) else (stickfullaw14_FillEven.l0 k x3 x4 x5 x6 ([] : List (S44)) 0)
def stickfullaw14_FillEven.l0 : Nat → Int → Int → Int → Bool → List (S44) → Int → Option (Bool)
  | 0, _, _, _, _, _, _ => none
  | k + 1, x3, x4, x5, x6, x7, x8 => if x8 < x3 then (if x8 > 0 then (if x7.length < 3518437208883 then (stickfullaw14_FillEven.l0 k x3 x4 x5 x6 (x7 ++ [(⟨0, 0, x8, wrap64 (x4), !x6, x6⟩ : S44)]) (wrap64 (x8 + 1))) else (none)) else (if x7.length < 3518437208883 then (stickfullaw14_FillEven.l0 k x3 x4 x5 x6 (x7 ++ [(⟨0, 0, x8, wrap64 (x4), false, false⟩ : S44)]) (wrap64 (x8 + 1))) else (none))) else ((fill_Lines.f k x7 x5 0 x5 0).bind fun bt525 => (if (wrap64 (x4)) = 0 then (none) else (if bt525.2 = 0 then (if (mx (wrap64 (Int.tdiv x5 (wrap64 (x4)))) 1) = 0 then (none) else (stickfullaw14_FillEven.j2 k x3 bt525.1 (mx (wrap64 (Int.tdiv x5 (wrap64 (x4)))) 1) ((bt525.1.length : Int) != (mx (wrap64 (Int.tdiv (wrap64 ((wrap64 (x3 + (mx (wrap64 (Int.tdiv x5 (wrap64 (x4)))) 1))) - 1)) (mx (wrap64 (Int.tdiv x5 (wrap64 (x4)))) 1))) 1)))) else (stickfullaw14_FillEven.j2 k x3 bt525.1 (mx (wrap64 (Int.tdiv x5 (wrap64 (x4)))) 1) true))))
def stickfullaw14_FillEven.j2 : Nat → Int → List (S35) → Int → Bool → Option (Bool)
  | 0, _, _, _, _ => none
  | k + 1, x3, x9, x11, x84 => if x84 = true then (some false) else (stickfullaw14_FillEven.l1 k x3 x9 x11 0)
def stickfullaw14_FillEven.l1 : Nat → Int → List (S35) → Int → Int → Option (Bool)
  | 0, _, _, _, _ => none
  | k + 1, x3, x9, x11, x12 => if x12 < (x9.length : Int) then (if 0 ≤ x12 then (if (!(((rd_T35 x9 x12).f0) == (wrap64 (x12 * x11))) || (!(((rd_T35 x9 x12).f1) == (mn (wrap64 ((wrap64 (x12 * x11)) + x11)) x3)) || (((rd_T35 x9 x12).f2)))) = true then (some false) else (stickfullaw14_FillEven.l1 k x3 x9 x11 (wrap64 (x12 + 1)))) else (none)) else ((stickfullaw14_head.f k).bind fun t530 => (some t530))
end
def stickfullaw14_FillEven.f (k : Nat) (a0_0 a0_1 a0_2 : Int) (a0_3 : Bool) : Option (Bool) := if a0_1 = 0 then (stickfullaw14_FillEven.j0 k (wrap64 (Int.tmod a0_0 201)) a0_1 a0_2 a0_3 true) else (if a0_2 < 0 then (stickfullaw14_FillEven.j0 k (wrap64 (Int.tmod a0_0 201)) a0_1 a0_2 a0_3 true) else (stickfullaw14_FillEven.j0 k (wrap64 (Int.tmod a0_0 201)) a0_1 a0_2 a0_3 (decide (a0_2 > 1073741824))))
theorem stickfullaw14_FillEven.mono_l : ∀ k, (∀ y0 y1 y2 y3 y4, LeO (stickfullaw14_FillEven.j0 k y0 y1 y2 y3 y4) (stickfullaw14_FillEven.j0 (k + 1) y0 y1 y2 y3 y4)) ∧ (∀ y0 y1 y2 y3 y4 y5, LeO (stickfullaw14_FillEven.l0 k y0 y1 y2 y3 y4 y5) (stickfullaw14_FillEven.l0 (k + 1) y0 y1 y2 y3 y4 y5)) ∧ (∀ y0 y1 y2 y3, LeO (stickfullaw14_FillEven.j2 k y0 y1 y2 y3) (stickfullaw14_FillEven.j2 (k + 1) y0 y1 y2 y3)) ∧ (∀ y0 y1 y2 y3, LeO (stickfullaw14_FillEven.l1 k y0 y1 y2 y3) (stickfullaw14_FillEven.l1 (k + 1) y0 y1 y2 y3))
  | 0 => ⟨fun _ _ _ _ _ r h => by simp [stickfullaw14_FillEven.j0] at h, fun _ _ _ _ _ _ r h => by simp [stickfullaw14_FillEven.l0] at h, fun _ _ _ _ r h => by simp [stickfullaw14_FillEven.j2] at h, fun _ _ _ _ r h => by simp [stickfullaw14_FillEven.l1] at h⟩
  | k + 1 => by
    obtain ⟨ih0, ih1, ih2, ih3⟩ := stickfullaw14_FillEven.mono_l k
    refine ⟨?_, ?_, ?_, ?_⟩
    · intro y0 y1 y2 y3 y4
      unfold stickfullaw14_FillEven.j0
      repeat' first
      | (with_reducible exact ih0 _ _ _ _ _)
      | (with_reducible exact ih1 _ _ _ _ _ _)
      | (with_reducible exact ih2 _ _ _ _)
      | (with_reducible exact ih3 _ _ _ _)
      | (with_reducible exact fill_Lines.mono _ _ _ _ _ _)
      | (with_reducible exact stickfullaw14_head.mono _)
      | (with_reducible exact LeO.refl _)
      | (with_reducible exact LeO.none _)
      | (with_reducible refine LeO.ite ?_ ?_)
      | (with_reducible refine LeO.bind ?_ (fun _ => ?_))
      | exact ih0 _ _ _ _ _
      | exact ih1 _ _ _ _ _ _
      | exact ih2 _ _ _ _
      | exact ih3 _ _ _ _
      | exact fill_Lines.mono _ _ _ _ _ _
      | exact stickfullaw14_head.mono _
      | exact LeO.none _
      | refine LeO.ite ?_ ?_
      | refine LeO.bind ?_ (fun _ => ?_)
    · intro y0 y1 y2 y3 y4 y5
      unfold stickfullaw14_FillEven.l0
      repeat' first
      | (with_reducible exact ih0 _ _ _ _ _)
      | (with_reducible exact ih1 _ _ _ _ _ _)
      | (with_reducible exact ih2 _ _ _ _)
      | (with_reducible exact ih3 _ _ _ _)
      | (with_reducible exact fill_Lines.mono _ _ _ _ _ _)
      | (with_reducible exact stickfullaw14_head.mono _)
      | (with_reducible exact LeO.refl _)
      | (with_reducible exact LeO.none _)
      | (with_reducible refine LeO.ite ?_ ?_)
      | (with_reducible refine LeO.bind ?_ (fun _ => ?_))
      | exact ih0 _ _ _ _ _
      | exact ih1 _ _ _ _ _ _
      | exact ih2 _ _ _ _
      | exact ih3 _ _ _ _
      | exact fill_Lines.mono _ _ _ _ _ _
      | exact stickfullaw14_head.mono _
      | exact LeO.none _
      | refine LeO.ite ?_ ?_
      | refine LeO.bind ?_ (fun _ => ?_)
    · intro y0 y1 y2 y3
      unfold stickfullaw14_FillEven.j2
      repeat' first
      | (with_reducible exact ih0 _ _ _ _ _)
      | (with_reducible exact ih1 _ _ _ _ _ _)
      | (with_reducible exact ih2 _ _ _ _)
      | (with_reducible exact ih3 _ _ _ _)
      | (with_reducible exact fill_Lines.mono _ _ _ _ _ _)
      | (with_reducible exact stickfullaw14_head.mono _)
      | (with_reducible exact LeO.refl _)
      | (with_reducible exact LeO.none _)
      | (with_reducible refine LeO.ite ?_ ?_)
      | (with_reducible refine LeO.bind ?_ (fun _ => ?_))
      | exact ih0 _ _ _ _ _
      | exact ih1 _ _ _ _ _ _
      | exact ih2 _ _ _ _
      | exact ih3 _ _ _ _
      | exact fill_Lines.mono _ _ _ _ _ _
      | exact stickfullaw14_head.mono _
      | exact LeO.none _
      | refine LeO.ite ?_ ?_
      | refine LeO.bind ?_ (fun _ => ?_)
    · intro y0 y1 y2 y3
      unfold stickfullaw14_FillEven.l1
      repeat' first
      | (with_reducible exact ih0 _ _ _ _ _)
      | (with_reducible exact ih1 _ _ _ _ _ _)
      | (with_reducible exact ih2 _ _ _ _)
      | (with_reducible exact ih3 _ _ _ _)
      | (with_reducible exact fill_Lines.mono _ _ _ _ _ _)
      | (with_reducible exact stickfullaw14_head.mono _)
      | (with_reducible exact LeO.refl _)
      | (with_reducible exact LeO.none _)
      | (with_reducible refine LeO.ite ?_ ?_)
      | (with_reducible refine LeO.bind ?_ (fun _ => ?_))
      | exact ih0 _ _ _ _ _
      | exact ih1 _ _ _ _ _ _
      | exact ih2 _ _ _ _
      | exact ih3 _ _ _ _
      | exact fill_Lines.mono _ _ _ _ _ _
      | exact stickfullaw14_head.mono _
      | exact LeO.none _
      | refine LeO.ite ?_ ?_
      | refine LeO.bind ?_ (fun _ => ?_)
theorem stickfullaw14_FillEven.mono : ∀ a0 a1 a2 a3 k, LeO (stickfullaw14_FillEven.f k a0 a1 a2 a3) (stickfullaw14_FillEven.f (k + 1) a0 a1 a2 a3) := by
  intro a0 a1 a2 a3 k
  obtain ⟨ih0, ih1, ih2, ih3⟩ := stickfullaw14_FillEven.mono_l k
  unfold stickfullaw14_FillEven.f
  repeat' first
      | (with_reducible exact ih0 _ _ _ _ _)
      | (with_reducible exact ih1 _ _ _ _ _ _)
      | (with_reducible exact ih2 _ _ _ _)
      | (with_reducible exact ih3 _ _ _ _)
      | (with_reducible exact fill_Lines.mono _ _ _ _ _ _)
      | (with_reducible exact stickfullaw14_head.mono _)
      | (with_reducible exact LeO.refl _)
      | (with_reducible exact LeO.none _)
      | (with_reducible refine LeO.ite ?_ ?_)
      | (with_reducible refine LeO.bind ?_ (fun _ => ?_))
      | exact ih0 _ _ _ _ _
      | exact ih1 _ _ _ _ _ _
      | exact ih2 _ _ _ _
      | exact ih3 _ _ _ _
      | exact fill_Lines.mono _ _ _ _ _ _
      | exact stickfullaw14_head.mono _
      | exact LeO.none _
      | refine LeO.ite ?_ ?_
      | refine LeO.bind ?_ (fun _ => ?_)
set_option maxHeartbeats 8000000 in
set_option maxRecDepth 100000 in
theorem stickfullaw14_FillEven.calls_t (k : Nat) (a0_0 a0_1 a0_2 : Int) (a0_3 r : Bool) (w : World) (h : stickfullaw14_FillEven.f k a0_0 a0_1 a0_2 a0_3 = some r) (hr_ : r = true) :
    Calls Try.prog 7 #[.agg #[.int .u8 a0_0, .int .u16 a0_1, .int .i64 a0_2, .bool a0_3]] w fun e w' => e = .returned (.bool r) ∧ Below w.heap.size w w' := by
  have hu49 := Try.underlying49
  have hu44 := Try.underlying44
  have hu24 := Try.underlying24
  have hu35 := Try.underlying35
  have HR_ := Aside0.mk hr_
  clear hr_
  have HB := Aside0.mk (Below.refl w.heap.size w)
  have H : (if a0_1 = 0 then (stickfullaw14_FillEven.j0 k (wrap64 (Int.tmod a0_0 201)) a0_1 a0_2 a0_3 true) else (if a0_2 < 0 then (stickfullaw14_FillEven.j0 k (wrap64 (Int.tmod a0_0 201)) a0_1 a0_2 a0_3 true) else (stickfullaw14_FillEven.j0 k (wrap64 (Int.tmod a0_0 201)) a0_1 a0_2 a0_3 (decide (a0_2 > 1073741824))))) = some r := h
  clear h
  have HC2 := Aside0.mk H
  clear H
  go_enter Try.func7, Try.ntmps7
  go_upto_region 2 with (first | ((with_reducible refine gate_dst (N := 1) rfl ?_); (try (refine gate_guard (by rfl) ?_; dsimp only)); refine box_event ?hg (N := 1) ?hd (cs := #[.int .u8 a0_0, .int .u16 a0_1, .int .i64 a0_2, .bool a0_3]) (t := 49) ?hr ?_; (case hd => rfl); (case hg => rfl); (case hr => first | (go_simp; done) | (go_simp; rfl)); intro gb517 hg w3 hbox hb; have BK517 := Aside0.mk (hbox); have GW517 := bge HB hg; have GE517 := bge HB hg; replace HB := bh HB hb; clear hb hbox hg; obtain ⟨hcz4_0, hcz4_1, hcz4_2, hcz4_3⟩ := cz4 BK517; obtain ⟨hfz4_0, hfz4_1, hfz4_2, hfz4_3⟩ := fz4 BK517))
  repeat (go_quiet (first | ((with_reducible refine gate_dst (N := 1) rfl ?_); (try (refine gate_guard (by rfl) ?_; dsimp only)); refine box_event ?hg (N := 1) ?hd (cs := #[.int .u8 a0_0, .int .u16 a0_1, .int .i64 a0_2, .bool a0_3]) (t := 49) ?hr ?_; (case hd => rfl); (case hg => rfl); (case hr => first | (go_simp; done) | (go_simp; rfl)); intro gb517 hg w3 hbox hb; have BK517 := Aside0.mk (hbox); have GW517 := bge HB hg; have GE517 := bge HB hg; replace HB := bh HB hb; clear hb hbox hg; obtain ⟨hcz4_0, hcz4_1, hcz4_2, hcz4_3⟩ := cz4 BK517; obtain ⟨hfz4_0, hfz4_1, hfz4_2, hfz4_3⟩ := fz4 BK517)); go_upto_region 2 with (first | ((with_reducible refine gate_dst (N := 1) rfl ?_); (try (refine gate_guard (by rfl) ?_; dsimp only)); refine box_event ?hg (N := 1) ?hd (cs := #[.int .u8 a0_0, .int .u16 a0_1, .int .i64 a0_2, .bool a0_3]) (t := 49) ?hr ?_; (case hd => rfl); (case hg => rfl); (case hr => first | (go_simp; done) | (go_simp; rfl)); intro gb517 hg w3 hbox hb; have BK517 := Aside0.mk (hbox); have GW517 := bge HB hg; have GE517 := bge HB hg; replace HB := bh HB hb; clear hb hbox hg; obtain ⟨hcz4_0, hcz4_1, hcz4_2, hcz4_3⟩ := cz4 BK517; obtain ⟨hfz4_0, hfz4_1, hfz4_2, hfz4_3⟩ := fz4 BK517)))
  (try simp only [Act.put, List.setIfInBounds_toArray, List.set_cons_zero, List.set_cons_succ])
  go_cut [32] (fun v32 wc => ∃ (kq : Nat) (x32_1 : Bool), v32 = .bool x32_1 ∧ Aside0 (stickfullaw14_FillEven.j0 kq (wrap64 (Int.tmod a0_0 201)) a0_1 a0_2 a0_3 x32_1 = some r) ∧ Aside0 (kq ≤ k) ∧ Aside0 (wc.heap[gb517]? = some (.cells #[.int .u8 a0_0, .int .u16 a0_1, .int .i64 a0_2, .bool a0_3] 49 (0, 0))) ∧ Aside0 (Below w.heap.size w wc))
  case first =>
    have H := HC2.out
    clear HC2
    by_cases c5 : a0_1 = 0
    · rw [if_pos c5] at H
      have c5b0 : (a0_1 == 0) = true := beq_iff_eq.mpr c5
      have c5b1 : (a0_1 != 0) = false := bne_eq_false_iff_eq.mpr c5
      clear c5
      (first | rw [c5b0] | (simp only [i64_w, i32_w]; rw [c5b0]) | skip)
      have H' := Aside0.mk H
      clear H
      go_wp2
      repeat (go_quiet (fail); try go_wp2)
      go_meet
      case rel => exact ⟨_, (true), (by first | rfl | (simp; done) | (simp [*]; done)), H', ⟨by first | omega | exact Nat.le_refl _⟩, ⟨by (with_reducible repeat (first | refine blk_drewN ?_ _ | refine blk_drew ?_ | refine blk_alloc ?_ _)); exact BK517.out⟩, ⟨by repeat (first | (with_reducible first | exact HB.out | apply below_alloc | apply pw_below_drewN | apply below_drew1 | refine below_set ?_ GE517.out) | exact HB.out)⟩⟩
    · rw [if_neg c5] at H
      have c5b0 : (a0_1 == 0) = false := beq_eq_false_iff_ne.mpr c5
      have c5b1 : (a0_1 != 0) = true := bne_iff_ne.mpr c5
      (first | rw [c5b0] | (simp only [i64_w, i32_w]; rw [c5b0]) | skip)
      by_cases c6 : a0_2 < 0
      · rw [if_pos c6] at H
        have c6b0 : decide (a0_2 < 0) = true := decide_eq_true c6
        clear c6
        have H' := Aside0.mk H
        clear H
        go_wp2
        repeat (go_quiet (fail); try go_wp2)
        go_meet
        case rel => exact ⟨_, (true), (by first | rfl | (simp; done) | (simp [*]; done)), H', ⟨by first | omega | exact Nat.le_refl _⟩, ⟨by (with_reducible repeat (first | refine blk_drewN ?_ _ | refine blk_drew ?_ | refine blk_alloc ?_ _)); exact BK517.out⟩, ⟨by repeat (first | (with_reducible first | exact HB.out | apply below_alloc | apply pw_below_drewN | apply below_drew1 | refine below_set ?_ GE517.out) | exact HB.out)⟩⟩
      · rw [if_neg c6] at H
        have c6b0 : decide (a0_2 < 0) = false := decide_eq_false c6
        clear c6
        have H' := Aside0.mk H
        clear H
        go_wp2
        repeat (go_quiet (fail); try go_wp2)
        go_meet
        case rel => exact ⟨_, (decide (a0_2 > 1073741824)), (by first | rfl | (simp; done) | (simp [*]; done)), H', ⟨by first | omega | exact Nat.le_refl _⟩, ⟨by (with_reducible repeat (first | refine blk_drewN ?_ _ | refine blk_drew ?_ | refine blk_alloc ?_ _)); exact BK517.out⟩, ⟨by repeat (first | (with_reducible first | exact HB.out | apply below_alloc | apply pw_below_drewN | apply below_drew1 | refine below_set ?_ GE517.out) | exact HB.out)⟩⟩
  case rest =>
    clear HC2
    try clear p2
    try clear c5
    try clear c5b0
    try clear c5b1
    try clear c6
    try clear c6b0
    try clear p6
    try clear hcz4_0
    try clear hcz4_1
    try clear hcz4_2
    try clear hcz4_3
    try clear hfz4_0
    try clear hfz4_1
    try clear hfz4_2
    try clear hfz4_3
    obtain ⟨kq, x32_1, rfl, HA, HJ1, BK517, HB⟩ := hcut
    cases kq with
    | zero => exact absurd HA.out (by simp [stickfullaw14_FillEven.j0])
    | succ kj1 =>
      have H := HA.out
      clear HA
      simp only [stickfullaw14_FillEven.j0] at H
      by_cases c7 : x32_1 = true
      · subst c7
        have H1 : ((stickfullaw14_head.f kj1).bind fun t518 => (some t518)) = some r := by rw [if_pos rfl] at H; exact H
        clear H
        have H := H1
        clear H1
        replace H := Option.bind_eq_some_iff.mp H
        obtain ⟨t518, A80, H⟩ := H
        replace H : (some t518) = some r := H
        have A8 := Aside0.mk A80
        clear A80
        obtain rfl := Option.some.inj H
        go_wp2_with (first | (go_at_call 8; (with_reducible refine (stickfullaw14_head.calls kj1  t518 _ A8.out).mono ?_); rintro e w9 ⟨rfl, hb⟩; replace BK517 := bb BK517 hb; replace HB := bh HB hb; (try clear hb); (try clear hb2); (try clear hk); (try clear hi)))
        repeat (go_quiet (first | (go_at_call 8; (with_reducible refine (stickfullaw14_head.calls kj1  t518 _ A8.out).mono ?_); rintro e w9 ⟨rfl, hb⟩; replace BK517 := bb BK517 hb; replace HB := bh HB hb; (try clear hb); (try clear hb2); (try clear hk); (try clear hi))); try go_wp2_with (first | (go_at_call 8; (with_reducible refine (stickfullaw14_head.calls kj1  t518 _ A8.out).mono ?_); rintro e w9 ⟨rfl, hb⟩; replace BK517 := bb BK517 hb; replace HB := bh HB hb; (try clear hb); (try clear hb2); (try clear hk); (try clear hi))))
        go_ret
        exact ⟨by first | rfl | (simp [errW_none, errW_some] <;> rfl) | (simp [*, errW_none, errW_some] <;> rfl), by repeat (first | (with_reducible first | exact HB.out | apply below_alloc | apply pw_below_drewN | apply below_drew1 | refine below_set ?_ GE517.out) | exact HB.out)⟩
      · replace c7 := Bool.eq_false_iff.mpr c7
        subst c7
        have H1 : (stickfullaw14_FillEven.l0 kj1 (wrap64 (Int.tmod a0_0 201)) a0_1 a0_2 a0_3 ([] : List (S44)) 0) = some r := by rw [if_neg (show ¬ (false = true) by decide)] at H; exact H
        clear H
        have H := H1
        clear H1
        have H' := Aside0.mk H
        clear H
        go_wp2
        repeat (go_quiet (fail); try go_wp2)
        go_loopg [7, 8] kj1 (fun kq v7 v8 w' => ∃ (x7_2 : List (S44)) (x8_2 : Int), v8 = .int .i64 x8_2 ∧ Aside0 (stickfullaw14_FillEven.l0 kq (wrap64 (Int.tmod a0_0 201)) a0_1 a0_2 a0_3 x7_2 x8_2 = some r) ∧ Aside0 (kq ≤ kj1) ∧ Aside0 (Kd.R k44 44 w' w.heap.size (fun _ => True) v7 x7_2) ∧ Aside0 (w'.heap[gb517]? = some (.cells #[.int .u8 a0_0, .int .u16 a0_1, .int .i64 a0_2, .bool a0_3] 49 (0, 0))) ∧ Aside0 (Below w.heap.size w w'))
        case atStart => exact ⟨(([] : List (S44))), (0), (by first | rfl | (simp; done) | (simp [*]; done)), H', ⟨Nat.le_refl _⟩, ⟨by first | exact Kd.R_nil _ _ _ _ _ | exact Kd.N_nil _ _ _ _ _ | exact Kd.V_nil _ _ _ _ _ | exact Kd.Q_nil _ _ _ _ _ | exact Kd.S_nil _ _ _ _ _⟩, ⟨by (with_reducible repeat (first | refine blk_drewN ?_ _ | refine blk_drew ?_ | refine blk_alloc ?_ _)); exact BK517.out⟩, ⟨by repeat (first | (with_reducible first | exact HB.out | apply below_alloc | apply pw_below_drewN | apply below_drew1 | refine below_set ?_ GE517.out) | exact HB.out)⟩⟩
        case round =>
          clear H'
          try clear p2
          try clear c5
          try clear c5b0
          try clear c5b1
          try clear c6
          try clear c6b0
          try clear p6
          try clear c7
          try clear hcz4_0
          try clear hcz4_1
          try clear hcz4_2
          try clear hcz4_3
          try clear hfz4_0
          try clear hfz4_1
          try clear hfz4_2
          try clear hfz4_3
          try clear p2
          try clear p6
          obtain ⟨x7_2, x8_2, rfl, HA, HK2, HO_7, BK517, HB⟩ := hrel
          cases gk with
          | zero => exact absurd HA.out (by simp [stickfullaw14_FillEven.l0])
          | succ k2 =>
            have H := HA.out
            clear HA
            simp only [stickfullaw14_FillEven.l0] at H
            by_cases c10 : x8_2 < (wrap64 (Int.tmod a0_0 201))
            · rw [if_pos c10] at H
              have c10b0 : decide (x8_2 < (wrap64 (Int.tmod a0_0 201))) = true := decide_eq_true c10
              clear c10
              by_cases c11 : x8_2 > 0
              · rw [if_pos c11] at H
                have c11b0 : decide (0 < x8_2) = true := decide_eq_true c11
                clear c11
                by_cases c12 : x7_2.length < 3518437208883
                · rw [if_pos c12] at H
                  have LMc12 := Aside0.mk c12
                  clear c12
                  obtain ⟨y519, hy519⟩ : ∃ y_ : List (S44), y_ = (x7_2 ++ [(⟨0, 0, x8_2, wrap64 (a0_1), !a0_3, a0_3⟩ : S44)]) := ⟨_, rfl⟩
                  replace H : (stickfullaw14_FillEven.l0 k2 (wrap64 (Int.tmod a0_0 201)) a0_1 a0_2 a0_3 y519 (wrap64 (x8_2 + 1))) = some r := by first | (rw [hy519]; with_reducible exact H) | (have H2_ := (Option.bind_some _ _).symm.trans H; rw [hy519]; with_reducible exact H2_) | (have H2_ := (Option.bind_some _ _).symm.trans H; with_reducible exact H2_) | with_reducible exact H | (rw [hy519]; exact H) | exact H
                  have Ny519 := Aside0.mk hy519
                  clear hy519
                  have H' := Aside0.mk H
                  clear H
                  go_wp2_with (first | ((with_reducible refine gate_builtin (b := .append) (xs := #[.tmp 39, .tmp 55]) rfl ?_); (try (refine gate_guard (by rfl) ?_; dsimp only)); at_builtin; refine Kd.R_append k44 (w0 := w) w.heap.size rfl (.tmp 39) (.tmp 55) 22 44 (.agg #[(.int .u8 0), (.int .i64 0), (.int .i64 0), (.int .i64 0), (.bool false), (.bool false)]) 40 rfl Try.underlying22 info44 rfl (by decide) (by omega) u7 x7_2 (⟨0, 0, x8_2, wrap64 (a0_1), !a0_3, a0_3⟩ : S44) [.int .u8 0, .int .i64 0, .int .i64 x8_2, .int .i64 (wrap64 (a0_1)), .bool (!a0_3), .bool a0_3] (fun _ => True) (fun _ => False) rfl rfl ?aP (fun _ hk => hk.elim) ?aF ?aO ?aB ?aS ?aL ?_; (case aP => exact k44_mkM _ _ _ (⟨0, 0, x8_2, wrap64 (a0_1), !a0_3, a0_3⟩ : S44)); (case aB => exact (bw HB)); (case aF => exact (fun _ _ => trivial)); (case aO => exact (rx HO_7)); (case aS => exact (below_size (bw HB))); (case aL => have := LMc12.out; omega); intro v520 w13 ho hb hg hat; rw [← Ny519.out] at ho; replace BK517 := Aside0.mk (blk_grown (bx BK517) hg (by first | exact Kd.R_ne HO_7.out BK517.out (by decide) | exact (fun e => by have z := And.left HO_7.out _ e.symm; simp at z))); replace HB := Aside0.mk (hb); have HO521 := Aside0.mk (ho); clear HO_7; clear ho hb hg hat))
                  repeat (go_quiet (first | ((with_reducible refine gate_builtin (b := .append) (xs := #[.tmp 39, .tmp 55]) rfl ?_); (try (refine gate_guard (by rfl) ?_; dsimp only)); at_builtin; refine Kd.R_append k44 (w0 := w) w.heap.size rfl (.tmp 39) (.tmp 55) 22 44 (.agg #[(.int .u8 0), (.int .i64 0), (.int .i64 0), (.int .i64 0), (.bool false), (.bool false)]) 40 rfl Try.underlying22 info44 rfl (by decide) (by omega) u7 x7_2 (⟨0, 0, x8_2, wrap64 (a0_1), !a0_3, a0_3⟩ : S44) [.int .u8 0, .int .i64 0, .int .i64 x8_2, .int .i64 (wrap64 (a0_1)), .bool (!a0_3), .bool a0_3] (fun _ => True) (fun _ => False) rfl rfl ?aP (fun _ hk => hk.elim) ?aF ?aO ?aB ?aS ?aL ?_; (case aP => exact k44_mkM _ _ _ (⟨0, 0, x8_2, wrap64 (a0_1), !a0_3, a0_3⟩ : S44)); (case aB => exact (bw HB)); (case aF => exact (fun _ _ => trivial)); (case aO => exact (rx HO_7)); (case aS => exact (below_size (bw HB))); (case aL => have := LMc12.out; omega); intro v520 w13 ho hb hg hat; rw [← Ny519.out] at ho; replace BK517 := Aside0.mk (blk_grown (bx BK517) hg (by first | exact Kd.R_ne HO_7.out BK517.out (by decide) | exact (fun e => by have z := And.left HO_7.out _ e.symm; simp at z))); replace HB := Aside0.mk (hb); have HO521 := Aside0.mk (ho); clear HO_7; clear ho hb hg hat)); try go_wp2_with (first | ((with_reducible refine gate_builtin (b := .append) (xs := #[.tmp 39, .tmp 55]) rfl ?_); (try (refine gate_guard (by rfl) ?_; dsimp only)); at_builtin; refine Kd.R_append k44 (w0 := w) w.heap.size rfl (.tmp 39) (.tmp 55) 22 44 (.agg #[(.int .u8 0), (.int .i64 0), (.int .i64 0), (.int .i64 0), (.bool false), (.bool false)]) 40 rfl Try.underlying22 info44 rfl (by decide) (by omega) u7 x7_2 (⟨0, 0, x8_2, wrap64 (a0_1), !a0_3, a0_3⟩ : S44) [.int .u8 0, .int .i64 0, .int .i64 x8_2, .int .i64 (wrap64 (a0_1)), .bool (!a0_3), .bool a0_3] (fun _ => True) (fun _ => False) rfl rfl ?aP (fun _ hk => hk.elim) ?aF ?aO ?aB ?aS ?aL ?_; (case aP => exact k44_mkM _ _ _ (⟨0, 0, x8_2, wrap64 (a0_1), !a0_3, a0_3⟩ : S44)); (case aB => exact (bw HB)); (case aF => exact (fun _ _ => trivial)); (case aO => exact (rx HO_7)); (case aS => exact (below_size (bw HB))); (case aL => have := LMc12.out; omega); intro v520 w13 ho hb hg hat; rw [← Ny519.out] at ho; replace BK517 := Aside0.mk (blk_grown (bx BK517) hg (by first | exact Kd.R_ne HO_7.out BK517.out (by decide) | exact (fun e => by have z := And.left HO_7.out _ e.symm; simp at z))); replace HB := Aside0.mk (hb); have HO521 := Aside0.mk (ho); clear HO_7; clear ho hb hg hat)))
                  go_roundg k2
                  case measure => have := HJ1.out; have := HK2.out; omega
                  case rel => exact ⟨(y519), (wrap64 (x8_2 + 1)), (by first | rfl | (simp; done) | (simp [*]; done)), H', ⟨by have := HJ1.out; have := HK2.out; omega⟩, ⟨by (with_reducible repeat (first | apply Kd.R_alloc | apply Kd.R_drewN | apply Kd.R_drew)); exact HO521.out⟩, ⟨by (with_reducible repeat (first | refine blk_drewN ?_ _ | refine blk_drew ?_ | refine blk_alloc ?_ _)); exact BK517.out⟩, ⟨by repeat (first | (with_reducible first | exact HB.out | apply below_alloc | apply pw_below_drewN | apply below_drew1 | refine below_set ?_ GE517.out) | exact HB.out)⟩⟩
                · rw [if_neg c12] at H
                  exact absurd H (by simp)
              · rw [if_neg c11] at H
                have c11b0 : decide (0 < x8_2) = false := decide_eq_false c11
                clear c11
                by_cases c14 : x7_2.length < 3518437208883
                · rw [if_pos c14] at H
                  have LMc14 := Aside0.mk c14
                  clear c14
                  obtain ⟨y522, hy522⟩ : ∃ y_ : List (S44), y_ = (x7_2 ++ [(⟨0, 0, x8_2, wrap64 (a0_1), false, false⟩ : S44)]) := ⟨_, rfl⟩
                  replace H : (stickfullaw14_FillEven.l0 k2 (wrap64 (Int.tmod a0_0 201)) a0_1 a0_2 a0_3 y522 (wrap64 (x8_2 + 1))) = some r := by first | (rw [hy522]; with_reducible exact H) | (have H2_ := (Option.bind_some _ _).symm.trans H; rw [hy522]; with_reducible exact H2_) | (have H2_ := (Option.bind_some _ _).symm.trans H; with_reducible exact H2_) | with_reducible exact H | (rw [hy522]; exact H) | exact H
                  have Ny522 := Aside0.mk hy522
                  clear hy522
                  have H' := Aside0.mk H
                  clear H
                  go_wp2_with (first | ((with_reducible refine gate_builtin (b := .append) (xs := #[.tmp 39, .tmp 55]) rfl ?_); (try (refine gate_guard (by rfl) ?_; dsimp only)); at_builtin; refine Kd.R_append k44 (w0 := w) w.heap.size rfl (.tmp 39) (.tmp 55) 22 44 (.agg #[(.int .u8 0), (.int .i64 0), (.int .i64 0), (.int .i64 0), (.bool false), (.bool false)]) 40 rfl Try.underlying22 info44 rfl (by decide) (by omega) u7 x7_2 (⟨0, 0, x8_2, wrap64 (a0_1), false, false⟩ : S44) [.int .u8 0, .int .i64 0, .int .i64 x8_2, .int .i64 (wrap64 (a0_1)), .bool false, .bool false] (fun _ => True) (fun _ => False) rfl rfl ?aP (fun _ hk => hk.elim) ?aF ?aO ?aB ?aS ?aL ?_; (case aP => exact k44_mkM _ _ _ (⟨0, 0, x8_2, wrap64 (a0_1), false, false⟩ : S44)); (case aB => exact (bw HB)); (case aF => exact (fun _ _ => trivial)); (case aO => exact (rx HO_7)); (case aS => exact (below_size (bw HB))); (case aL => have := LMc14.out; omega); intro v523 w15 ho hb hg hat; rw [← Ny522.out] at ho; replace BK517 := Aside0.mk (blk_grown (bx BK517) hg (by first | exact Kd.R_ne HO_7.out BK517.out (by decide) | exact (fun e => by have z := And.left HO_7.out _ e.symm; simp at z))); replace HB := Aside0.mk (hb); have HO524 := Aside0.mk (ho); clear HO_7; clear ho hb hg hat))
                  repeat (go_quiet (first | ((with_reducible refine gate_builtin (b := .append) (xs := #[.tmp 39, .tmp 55]) rfl ?_); (try (refine gate_guard (by rfl) ?_; dsimp only)); at_builtin; refine Kd.R_append k44 (w0 := w) w.heap.size rfl (.tmp 39) (.tmp 55) 22 44 (.agg #[(.int .u8 0), (.int .i64 0), (.int .i64 0), (.int .i64 0), (.bool false), (.bool false)]) 40 rfl Try.underlying22 info44 rfl (by decide) (by omega) u7 x7_2 (⟨0, 0, x8_2, wrap64 (a0_1), false, false⟩ : S44) [.int .u8 0, .int .i64 0, .int .i64 x8_2, .int .i64 (wrap64 (a0_1)), .bool false, .bool false] (fun _ => True) (fun _ => False) rfl rfl ?aP (fun _ hk => hk.elim) ?aF ?aO ?aB ?aS ?aL ?_; (case aP => exact k44_mkM _ _ _ (⟨0, 0, x8_2, wrap64 (a0_1), false, false⟩ : S44)); (case aB => exact (bw HB)); (case aF => exact (fun _ _ => trivial)); (case aO => exact (rx HO_7)); (case aS => exact (below_size (bw HB))); (case aL => have := LMc14.out; omega); intro v523 w15 ho hb hg hat; rw [← Ny522.out] at ho; replace BK517 := Aside0.mk (blk_grown (bx BK517) hg (by first | exact Kd.R_ne HO_7.out BK517.out (by decide) | exact (fun e => by have z := And.left HO_7.out _ e.symm; simp at z))); replace HB := Aside0.mk (hb); have HO524 := Aside0.mk (ho); clear HO_7; clear ho hb hg hat)); try go_wp2_with (first | ((with_reducible refine gate_builtin (b := .append) (xs := #[.tmp 39, .tmp 55]) rfl ?_); (try (refine gate_guard (by rfl) ?_; dsimp only)); at_builtin; refine Kd.R_append k44 (w0 := w) w.heap.size rfl (.tmp 39) (.tmp 55) 22 44 (.agg #[(.int .u8 0), (.int .i64 0), (.int .i64 0), (.int .i64 0), (.bool false), (.bool false)]) 40 rfl Try.underlying22 info44 rfl (by decide) (by omega) u7 x7_2 (⟨0, 0, x8_2, wrap64 (a0_1), false, false⟩ : S44) [.int .u8 0, .int .i64 0, .int .i64 x8_2, .int .i64 (wrap64 (a0_1)), .bool false, .bool false] (fun _ => True) (fun _ => False) rfl rfl ?aP (fun _ hk => hk.elim) ?aF ?aO ?aB ?aS ?aL ?_; (case aP => exact k44_mkM _ _ _ (⟨0, 0, x8_2, wrap64 (a0_1), false, false⟩ : S44)); (case aB => exact (bw HB)); (case aF => exact (fun _ _ => trivial)); (case aO => exact (rx HO_7)); (case aS => exact (below_size (bw HB))); (case aL => have := LMc14.out; omega); intro v523 w15 ho hb hg hat; rw [← Ny522.out] at ho; replace BK517 := Aside0.mk (blk_grown (bx BK517) hg (by first | exact Kd.R_ne HO_7.out BK517.out (by decide) | exact (fun e => by have z := And.left HO_7.out _ e.symm; simp at z))); replace HB := Aside0.mk (hb); have HO524 := Aside0.mk (ho); clear HO_7; clear ho hb hg hat)))
                  go_roundg k2
                  case measure => have := HJ1.out; have := HK2.out; omega
                  case rel => exact ⟨(y522), (wrap64 (x8_2 + 1)), (by first | rfl | (simp; done) | (simp [*]; done)), H', ⟨by have := HJ1.out; have := HK2.out; omega⟩, ⟨by (with_reducible repeat (first | apply Kd.R_alloc | apply Kd.R_drewN | apply Kd.R_drew)); exact HO524.out⟩, ⟨by (with_reducible repeat (first | refine blk_drewN ?_ _ | refine blk_drew ?_ | refine blk_alloc ?_ _)); exact BK517.out⟩, ⟨by repeat (first | (with_reducible first | exact HB.out | apply below_alloc | apply pw_below_drewN | apply below_drew1 | refine below_set ?_ GE517.out) | exact HB.out)⟩⟩
                · rw [if_neg c14] at H
                  exact absurd H (by simp)
            · rw [if_neg c10] at H
              have c10b0 : decide (x8_2 < (wrap64 (Int.tmod a0_0 201))) = false := decide_eq_false c10
              clear c10
              replace H := Option.bind_eq_some_iff.mp H
              obtain ⟨⟨t525, t528⟩, A160, H⟩ := H
              replace H : (if (wrap64 (a0_1)) = 0 then (none) else (if t528 = 0 then (if (mx (wrap64 (Int.tdiv a0_2 (wrap64 (a0_1)))) 1) = 0 then (none) else (stickfullaw14_FillEven.j2 k2 (wrap64 (Int.tmod a0_0 201)) t525 (mx (wrap64 (Int.tdiv a0_2 (wrap64 (a0_1)))) 1) ((t525.length : Int) != (mx (wrap64 (Int.tdiv (wrap64 ((wrap64 ((wrap64 (Int.tmod a0_0 201)) + (mx (wrap64 (Int.tdiv a0_2 (wrap64 (a0_1)))) 1))) - 1)) (mx (wrap64 (Int.tdiv a0_2 (wrap64 (a0_1)))) 1))) 1)))) else (stickfullaw14_FillEven.j2 k2 (wrap64 (Int.tmod a0_0 201)) t525 (mx (wrap64 (Int.tdiv a0_2 (wrap64 (a0_1)))) 1) true))) = some r := H
              have A16 := Aside0.mk A160
              clear A160
              by_cases c17 : (wrap64 (a0_1)) = 0
              · rw [if_pos c17] at H
                exact absurd H (by simp)
              · rw [if_neg c17] at H
                have c17b0 : ((wrap64 (a0_1)) == 0) = false := beq_eq_false_iff_ne.mpr c17
                have c17b1 : ((wrap64 (a0_1)) != 0) = true := bne_iff_ne.mpr c17
                obtain ⟨ji18, hji18⟩ : ∃ j_ : Int, (mx (wrap64 (Int.tdiv a0_2 (wrap64 (a0_1)))) 1) = j_ := ⟨_, rfl⟩
                replace H : (if t528 = 0 then (if (ji18) = 0 then (none) else (stickfullaw14_FillEven.j2 k2 (wrap64 (Int.tmod a0_0 201)) t525 ji18 ((t525.length : Int) != (mx (wrap64 (Int.tdiv (wrap64 ((wrap64 ((wrap64 (Int.tmod a0_0 201)) + (ji18))) - 1)) (ji18))) 1)))) else (stickfullaw14_FillEven.j2 k2 (wrap64 (Int.tmod a0_0 201)) t525 ji18 true)) = some r := by first | (rw [hji18] at H; exact H) | (simp only [hji18] at H ⊢; exact H)
                (try rw [hji18] at A16)
                have hji18_ : (if (wrap64 (Int.tdiv a0_2 (wrap64 (a0_1)))) < 1 then 1 else (wrap64 (Int.tdiv a0_2 (wrap64 (a0_1))))) = ji18 := hji18
                have HC19 := Aside0.mk H
                clear H
                obtain ⟨Ao20, co20, eo20⟩ := Kd.R_slice HO_7.out
                subst eo20
                go_upto_region 11 with (first | (go_at_call 9; (with_reducible refine (fill_Lines.calls k2 _ _ x7_2 a0_2 0 a0_2 0 t525 t528 _ ?side1 ?side2 A16.out).mono ?_); (case side1 => repeat (first | exact (Kd.R_reads' HO_7.out).2.2 | (with_reducible refine Kd.C_alloc ?_ _) | (with_reducible refine Kd.C_drewN ?_ _) | (with_reducible refine Kd.C_drew ?_))); (case side2 => exact (Kd.R_reads' HO_7.out).2.1); rintro e w21 ⟨v526, rfl, ho0, hb⟩; replace HO_7 := Aside0.mk (Kd.R_below (rx HO_7) hb); have HO527 := Aside0.mk (Kd.R_lower ho0 (below_size (bw HB))); replace BK517 := bb BK517 hb; replace HB := bh HB hb; (try clear hb); (try clear hb2); (try clear hk); (try clear hi); (try clear ho0)))
                repeat (go_quiet (first | (go_at_call 9; (with_reducible refine (fill_Lines.calls k2 _ _ x7_2 a0_2 0 a0_2 0 t525 t528 _ ?side1 ?side2 A16.out).mono ?_); (case side1 => repeat (first | exact (Kd.R_reads' HO_7.out).2.2 | (with_reducible refine Kd.C_alloc ?_ _) | (with_reducible refine Kd.C_drewN ?_ _) | (with_reducible refine Kd.C_drew ?_))); (case side2 => exact (Kd.R_reads' HO_7.out).2.1); rintro e w21 ⟨v526, rfl, ho0, hb⟩; replace HO_7 := Aside0.mk (Kd.R_below (rx HO_7) hb); have HO527 := Aside0.mk (Kd.R_lower ho0 (below_size (bw HB))); replace BK517 := bb BK517 hb; replace HB := bh HB hb; (try clear hb); (try clear hb2); (try clear hk); (try clear hi); (try clear ho0))); go_upto_region 11 with (first | (go_at_call 9; (with_reducible refine (fill_Lines.calls k2 _ _ x7_2 a0_2 0 a0_2 0 t525 t528 _ ?side1 ?side2 A16.out).mono ?_); (case side1 => repeat (first | exact (Kd.R_reads' HO_7.out).2.2 | (with_reducible refine Kd.C_alloc ?_ _) | (with_reducible refine Kd.C_drewN ?_ _) | (with_reducible refine Kd.C_drew ?_))); (case side2 => exact (Kd.R_reads' HO_7.out).2.1); rintro e w21 ⟨v526, rfl, ho0, hb⟩; replace HO_7 := Aside0.mk (Kd.R_below (rx HO_7) hb); have HO527 := Aside0.mk (Kd.R_lower ho0 (below_size (bw HB))); replace BK517 := bb BK517 hb; replace HB := bh HB hb; (try clear hb); (try clear hb2); (try clear hk); (try clear hi); (try clear ho0))))
                (try simp only [Act.put, List.setIfInBounds_toArray, List.set_cons_zero, List.set_cons_succ])
                go_cut [84] (fun v84 wc => ∃ (kq : Nat) (x84_18 : Bool), v84 = .bool x84_18 ∧ Aside0 (stickfullaw14_FillEven.j2 kq (wrap64 (Int.tmod a0_0 201)) t525 ji18 x84_18 = some r) ∧ Aside0 (kq ≤ k2) ∧ Aside0 (Kd.R k35 35 wc w.heap.size (fun _ => True) v526 t525) ∧ Aside0 (wc.heap[gb517]? = some (.cells #[.int .u8 a0_0, .int .u16 a0_1, .int .i64 a0_2, .bool a0_3] 49 (0, 0))) ∧ Aside0 (Below w.heap.size w wc))
                case first =>
                  have H := HC19.out
                  clear HC19
                  by_cases c22 : t528 = 0
                  · rw [if_pos c22] at H
                    have c22b0 : (t528 == 0) = true := beq_iff_eq.mpr c22
                    have c22b1 : (t528 != 0) = false := bne_eq_false_iff_eq.mpr c22
                    clear c22
                    (first | rw [c22b0] | (simp only [i64_w, i32_w]; rw [c22b0]) | skip)
                    by_cases c23 : (ji18) = 0
                    · rw [if_pos c23] at H
                      exact absurd H (by simp)
                    · rw [if_neg c23] at H
                      have c23b0 : ((ji18) == 0) = false := beq_eq_false_iff_ne.mpr c23
                      have c23b1 : ((ji18) != 0) = true := bne_iff_ne.mpr c23
                      obtain ⟨ji24, hji24⟩ : ∃ j_ : Int, (mx (wrap64 (Int.tdiv (wrap64 ((wrap64 ((wrap64 (Int.tmod a0_0 201)) + (ji18))) - 1)) (ji18))) 1) = j_ := ⟨_, rfl⟩
                      replace H : (stickfullaw14_FillEven.j2 k2 (wrap64 (Int.tmod a0_0 201)) t525 ji18 ((t525.length : Int) != (ji24))) = some r := by first | (rw [hji24] at H; exact H) | (simp only [hji24] at H ⊢; exact H)
                      have hji24_ : (if (wrap64 (Int.tdiv (wrap64 ((wrap64 ((wrap64 (Int.tmod a0_0 201)) + (ji18))) - 1)) (ji18))) < 1 then 1 else (wrap64 (Int.tdiv (wrap64 ((wrap64 ((wrap64 (Int.tmod a0_0 201)) + (ji18))) - 1)) (ji18)))) = ji24 := hji24
                      have H' := Aside0.mk H
                      clear H
                      obtain ⟨Ao25, co25, eo25⟩ := Kd.R_slice HO527.out
                      subst eo25
                      go_wp2
                      repeat (go_quiet (fail); try go_wp2)
                      go_meet
                      case rel => exact ⟨_, (((t525.length : Int) != (ji24))), (by first | rfl | (simp; done) | (simp only [← hji24] <;> (first | rfl | simp)) | (simp [*]; done)), H', ⟨by have := HJ1.out; have := HK2.out; first | omega | exact Nat.le_refl _⟩, ⟨by (with_reducible repeat (first | apply Kd.R_alloc | apply Kd.R_drewN | apply Kd.R_drew)); exact HO527.out⟩, ⟨by (with_reducible repeat (first | refine blk_drewN ?_ _ | refine blk_drew ?_ | refine blk_alloc ?_ _)); exact BK517.out⟩, ⟨by repeat (first | (with_reducible first | exact HB.out | apply below_alloc | apply pw_below_drewN | apply below_drew1 | refine below_set ?_ GE517.out) | exact HB.out)⟩⟩
                  · rw [if_neg c22] at H
                    have c22b0 : (t528 == 0) = false := beq_eq_false_iff_ne.mpr c22
                    have c22b1 : (t528 != 0) = true := bne_iff_ne.mpr c22
                    (first | rw [c22b0] | (simp only [i64_w, i32_w]; rw [c22b0]) | skip)
                    have H' := Aside0.mk H
                    clear H
                    go_wp2
                    repeat (go_quiet (fail); try go_wp2)
                    go_meet
                    case rel => exact ⟨_, (true), (by first | rfl | (simp; done) | (simp [*]; done)), H', ⟨by have := HJ1.out; have := HK2.out; first | omega | exact Nat.le_refl _⟩, ⟨by (with_reducible repeat (first | apply Kd.R_alloc | apply Kd.R_drewN | apply Kd.R_drew)); exact HO527.out⟩, ⟨by (with_reducible repeat (first | refine blk_drewN ?_ _ | refine blk_drew ?_ | refine blk_alloc ?_ _)); exact BK517.out⟩, ⟨by repeat (first | (with_reducible first | exact HB.out | apply below_alloc | apply pw_below_drewN | apply below_drew1 | refine below_set ?_ GE517.out) | exact HB.out)⟩⟩
                case rest =>
                  clear HC19
                  try clear c1
                  try clear c2
                  try clear p2
                  try clear c5
                  try clear c5b0
                  try clear c5b1
                  try clear c6
                  try clear c6b0
                  try clear p6
                  try clear c7
                  try clear c10
                  try clear c10b0
                  try clear c11
                  try clear c11b0
                  try clear c12
                  try clear c14
                  try clear c17
                  try clear c17b0
                  try clear c17b1
                  try clear c22
                  try clear c22b0
                  try clear c22b1
                  try clear c23
                  try clear c23b0
                  try clear c23b1
                  try clear hcz4_0
                  try clear hcz4_1
                  try clear hcz4_2
                  try clear hcz4_3
                  try clear hfz4_0
                  try clear hfz4_1
                  try clear hfz4_2
                  try clear hfz4_3
                  try clear p2
                  try clear p6
                  obtain ⟨kq, x84_18, rfl, HA, HJ18, HO_9, BK517, HB⟩ := hcut
                  cases kq with
                  | zero => exact absurd HA.out (by simp [stickfullaw14_FillEven.j2])
                  | succ kj18 =>
                    have H := HA.out
                    clear HA
                    simp only [stickfullaw14_FillEven.j2] at H
                    by_cases c26 : x84_18 = true
                    · subst c26
                      have H1 : (some false) = some r := by rw [if_pos rfl] at H; exact H
                      clear H
                      have H := H1
                      clear H1
                      exact absurd ((Option.some.inj H).trans HR_.out) (by decide)
                    · replace c26 := Bool.eq_false_iff.mpr c26
                      subst c26
                      have H1 : (stickfullaw14_FillEven.l1 kj18 (wrap64 (Int.tmod a0_0 201)) t525 ji18 0) = some r := by rw [if_neg (show ¬ (false = true) by decide)] at H; exact H
                      clear H
                      have H := H1
                      clear H1
                      have H' := Aside0.mk H
                      clear H
                      go_wp2
                      repeat (go_quiet (fail); try go_wp2)
                      go_loopg [12] kj18 (fun kq v12 w' => ∃ (x12_4 : Int), v12 = .int .i64 x12_4 ∧ Aside0 (stickfullaw14_FillEven.l1 kq (wrap64 (Int.tmod a0_0 201)) t525 ji18 x12_4 = some r) ∧ Aside0 (kq ≤ kj18) ∧ Aside0 (Kd.R k35 35 w' w.heap.size (fun _ => True) v526 t525) ∧ Aside0 (w'.heap[gb517]? = some (.cells #[.int .u8 a0_0, .int .u16 a0_1, .int .i64 a0_2, .bool a0_3] 49 (0, 0))) ∧ Aside0 (Below w.heap.size w w'))
                      case atStart => exact ⟨(0), (by first | rfl | (simp; done) | (simp [*]; done)), H', ⟨Nat.le_refl _⟩, ⟨by (with_reducible repeat (first | apply Kd.R_alloc | apply Kd.R_drewN | apply Kd.R_drew)); exact HO_9.out⟩, ⟨by (with_reducible repeat (first | refine blk_drewN ?_ _ | refine blk_drew ?_ | refine blk_alloc ?_ _)); exact BK517.out⟩, ⟨by repeat (first | (with_reducible first | exact HB.out | apply below_alloc | apply pw_below_drewN | apply below_drew1 | refine below_set ?_ GE517.out) | exact HB.out)⟩⟩
                      case round =>
                        clear H'
                        try clear c1
                        try clear c2
                        try clear p2
                        try clear c5
                        try clear c5b0
                        try clear c5b1
                        try clear c6
                        try clear c6b0
                        try clear p6
                        try clear c7
                        try clear c10
                        try clear c10b0
                        try clear c11
                        try clear c11b0
                        try clear c12
                        try clear c14
                        try clear c17
                        try clear c17b0
                        try clear c17b1
                        try clear c22
                        try clear c22b0
                        try clear c22b1
                        try clear c23
                        try clear c23b0
                        try clear c23b1
                        try clear c26
                        try clear hcz4_0
                        try clear hcz4_1
                        try clear hcz4_2
                        try clear hcz4_3
                        try clear hfz4_0
                        try clear hfz4_1
                        try clear hfz4_2
                        try clear hfz4_3
                        try clear p2
                        try clear p6
                        obtain ⟨x12_4, rfl, HA, HK4, HO_9, BK517, HB⟩ := hrel
                        cases gk with
                        | zero => exact absurd HA.out (by simp [stickfullaw14_FillEven.l1])
                        | succ k4 =>
                          have H := HA.out
                          clear HA
                          simp only [stickfullaw14_FillEven.l1] at H
                          by_cases c27 : x12_4 < (t525.length : Int)
                          · rw [if_pos c27] at H
                            have c27b0 : decide (x12_4 < (t525.length : Int)) = true := decide_eq_true c27
                            clear c27
                            by_cases c28 : 0 ≤ x12_4
                            · rw [if_pos c28] at H
                              have c28b0 : decide (0 ≤ x12_4) = true := decide_eq_true c28
                              clear c28
                              obtain ⟨ji29, hji29⟩ : ∃ j_ : Int, (mn (wrap64 ((wrap64 (x12_4 * ji18)) + ji18)) (wrap64 (Int.tmod a0_0 201))) = j_ := ⟨_, rfl⟩
                              replace H : (if (!(((rd_T35 t525 x12_4).f0) == (wrap64 (x12_4 * ji18))) || (!(((rd_T35 t525 x12_4).f1) == (ji29)) || (((rd_T35 t525 x12_4).f2)))) = true then (some false) else (stickfullaw14_FillEven.l1 k4 (wrap64 (Int.tmod a0_0 201)) t525 ji18 (wrap64 (x12_4 + 1)))) = some r := by first | (rw [hji29] at H; exact H) | (simp only [hji29] at H ⊢; exact H)
                              have hji29_ : (if (wrap64 (Int.tmod a0_0 201)) < (wrap64 ((wrap64 (x12_4 * ji18)) + ji18)) then (wrap64 (Int.tmod a0_0 201)) else (wrap64 ((wrap64 (x12_4 * ji18)) + ji18))) = ji29 := hji29
                              by_cases c30 : (!(((rd_T35 t525 x12_4).f0) == (wrap64 (x12_4 * ji18))) || (!(((rd_T35 t525 x12_4).f1) == (ji29)) || (((rd_T35 t525 x12_4).f2)))) = true
                              · rw [if_pos c30] at H
                                have c30b0 : (!(((rd_T35 t525 x12_4).f0) == (wrap64 (x12_4 * ji18))) || (!(((rd_T35 t525 x12_4).f1) == (ji29)) || (((rd_T35 t525 x12_4).f2)))) = true := c30
                                clear c30
                                exact absurd ((Option.some.inj H).trans HR_.out) (by decide)
                              · rw [if_neg c30] at H
                                have c30b0 : (!(((rd_T35 t525 x12_4).f0) == (wrap64 (x12_4 * ji18))) || (!(((rd_T35 t525 x12_4).f1) == (ji29)) || (((rd_T35 t525 x12_4).f2)))) = false := by simpa using c30
                                clear c30
                                have H' := Aside0.mk H
                                clear H
                                obtain ⟨Ao31, co31, eo31⟩ := Kd.R_slice HO_9.out
                                subst eo31
                                have p529 : 0 ≤ (x12_4 : Int) := of_decide_eq_true (by first | (with_reducible assumption) | assumption)
                                have q529 : x12_4 < (t525.length : Int) := of_decide_eq_true (by first | (with_reducible assumption) | assumption)
                                obtain ⟨ad529, e529, hx529_0, hx529_1, hx529_2⟩ := at_T35 (Kd.R_reads' HO_9.out).2.2 x12_4 p529 q529
                                cases e529
                                replace p529 := eq_true p529
                                replace q529 := eq_true q529
                                go_wp2
                                repeat (go_quiet (fail); try go_wp2)
                                go_roundg k4
                                case measure => have := HJ1.out; have := HK2.out; have := HJ18.out; have := HK4.out; omega
                                case rel => exact ⟨(wrap64 (x12_4 + 1)), (by first | rfl | (simp; done) | (simp [*]; done)), H', ⟨by have := HJ1.out; have := HK2.out; have := HJ18.out; have := HK4.out; omega⟩, ⟨by (with_reducible repeat (first | apply Kd.R_alloc | apply Kd.R_drewN | apply Kd.R_drew)); exact HO_9.out⟩, ⟨by (with_reducible repeat (first | refine blk_drewN ?_ _ | refine blk_drew ?_ | refine blk_alloc ?_ _)); exact BK517.out⟩, ⟨by repeat (first | (with_reducible first | exact HB.out | apply below_alloc | apply pw_below_drewN | apply below_drew1 | refine below_set ?_ GE517.out) | exact HB.out)⟩⟩
                            · rw [if_neg c28] at H
                              exact absurd H (by simp)
                          · rw [if_neg c27] at H
                            have c27b0 : decide (x12_4 < (t525.length : Int)) = false := decide_eq_false c27
                            clear c27
                            replace H := Option.bind_eq_some_iff.mp H
                            obtain ⟨t530, A320, H⟩ := H
                            replace H : (some t530) = some r := H
                            have A32 := Aside0.mk A320
                            clear A320
                            obtain rfl := Option.some.inj H
                            obtain ⟨Ao33, co33, eo33⟩ := Kd.R_slice HO_9.out
                            subst eo33
                            go_wp2_with (first | (go_at_call 8; (with_reducible refine (stickfullaw14_head.calls k4  t530 _ A32.out).mono ?_); rintro e w34 ⟨rfl, hb⟩; replace HO_9 := Aside0.mk (Kd.R_below (rx HO_9) hb); replace BK517 := bb BK517 hb; replace HB := bh HB hb; (try clear hb); (try clear hb2); (try clear hk); (try clear hi)))
                            repeat (go_quiet (first | (go_at_call 8; (with_reducible refine (stickfullaw14_head.calls k4  t530 _ A32.out).mono ?_); rintro e w34 ⟨rfl, hb⟩; replace HO_9 := Aside0.mk (Kd.R_below (rx HO_9) hb); replace BK517 := bb BK517 hb; replace HB := bh HB hb; (try clear hb); (try clear hb2); (try clear hk); (try clear hi))); try go_wp2_with (first | (go_at_call 8; (with_reducible refine (stickfullaw14_head.calls k4  t530 _ A32.out).mono ?_); rintro e w34 ⟨rfl, hb⟩; replace HO_9 := Aside0.mk (Kd.R_below (rx HO_9) hb); replace BK517 := bb BK517 hb; replace HB := bh HB hb; (try clear hb); (try clear hb2); (try clear hk); (try clear hi))))
                            go_ret
                            exact ⟨by first | rfl | (simp [errW_none, errW_some] <;> rfl) | (simp only [← hji18]; first | rfl | (simp [errW_none, errW_some] <;> rfl)) | (simp [*, errW_none, errW_some] <;> rfl), by repeat (first | (with_reducible first | exact HB.out | apply below_alloc | apply pw_below_drewN | apply below_drew1 | refine below_set ?_ GE517.out) | exact HB.out)⟩

end Go.Proofs.Ytagdaniakfpnfaa.HFill
