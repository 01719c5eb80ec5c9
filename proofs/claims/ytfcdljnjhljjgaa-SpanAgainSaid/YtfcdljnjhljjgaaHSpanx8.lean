-- Written by this claim's own program over the kit's print.
import Derived.Test.YtfcdljnjhljjgaaHSpanb
import Derived.Test.YtfcdljnjhljjgaaHSpanx0
import Derived.Test.YtfcdljnjhljjgaaHSpanx1
import Derived.Test.YtfcdljnjhljjgaaHSpanx2
import Derived.Test.YtfcdljnjhljjgaaHSpanx3
import Derived.Test.YtfcdljnjhljjgaaHSpanx7
import Derived.Test.YtfcdljnjhljjgaaHand3
import Derived.Test.YtfcdljnjhljjgaaHand4
import Derived.StillTailTactics
import Derived.Laws.Externs
import Derived.BigFrameIn
import Derived.Lib.Hide
import Derived.Test.YtfcdljnjhljjgaaHand9
import Derived.Sort.LoopGhostIn
import Derived.BigQuiet
import Derived.Deep.MidRow
import Derived.Deep.Cut
import Derived.Test.YtfcdljnjhljjgaaHSpanb
import Derived.Test.YtfcdljnjhljjgaaHandA
namespace Go.Proofs.Ytfcdljnjhljjgaa.HSpan
open Go.RowKit Go.Proofs.YtfcdljnjhljjgaaW.PrintWords Go.Proofs.YtfcdljnjhljjgaaW.PrintLast Go.Proofs.YtfcdljnjhljjgaaW.PrintMore Go.Proofs.Ytfcdljnjhljjgaa.Hand
attribute [local go_sem] max2_int min2_int max_two min_two max_three min_three max_four min_four   -- for this text's walks alone
set_option linter.unusedVariables false
set_option linter.unusedSimpArgs false

attribute [local go_sem high] eqA23
/-! ### stickfulref20_Same: function 12 -/
def stickfulref20_Same.l0 : Nat → List Int → List Int → Int → Option (Bool)
  | 0, _, _, _ => none
  | k + 1, x0, x1, x5 => if x5 < (x0.length : Int) then (if 0 ≤ x5 then (if x5 < (x1.length : Int) then (if (rd x0 x5) = (rd x1 x5) then (stickfulref20_Same.l0 k x0 x1 (wrap64 (x5 + 1))) else (some false)) else (none)) else (none)) else (some true)
def stickfulref20_Same.f (k : Nat) (l0 : List Int) (l1 : List Int) : Option (Bool) := if (l0.length : Int) = (l1.length : Int) then (stickfulref20_Same.l0 k l0 l1 0) else (some false)
theorem stickfulref20_Same.mono_l : ∀ k, (∀ y0 y1 y2, LeO (stickfulref20_Same.l0 k y0 y1 y2) (stickfulref20_Same.l0 (k + 1) y0 y1 y2))
  | 0 => fun _ _ _ r h => by simp [stickfulref20_Same.l0] at h
  | k + 1 => by
    have ih0 := stickfulref20_Same.mono_l k
    · intro y0 y1 y2
      unfold stickfulref20_Same.l0
      repeat' first
      | (with_reducible exact ih0 _ _ _)
      | (with_reducible exact LeO.refl _)
      | (with_reducible exact LeO.none _)
      | (with_reducible refine LeO.ite ?_ ?_)
      | (with_reducible refine LeO.bind ?_ (fun _ => ?_))
      | exact ih0 _ _ _
      | exact LeO.none _
      | refine LeO.ite ?_ ?_
      | refine LeO.bind ?_ (fun _ => ?_)
theorem stickfulref20_Same.mono : ∀ a0 a1 k, LeO (stickfulref20_Same.f k a0 a1) (stickfulref20_Same.f (k + 1) a0 a1) := by
  intro a0 a1 k
  have ih0 := stickfulref20_Same.mono_l k
  unfold stickfulref20_Same.f
  repeat' first
      | (with_reducible exact ih0 _ _ _)
      | (with_reducible exact LeO.refl _)
      | (with_reducible exact LeO.none _)
      | (with_reducible refine LeO.ite ?_ ?_)
      | (with_reducible refine LeO.bind ?_ (fun _ => ?_))
      | exact ih0 _ _ _
      | exact LeO.none _
      | refine LeO.ite ?_ ?_
      | refine LeO.bind ?_ (fun _ => ?_)
set_option maxHeartbeats 8000000 in
set_option maxRecDepth 100000 in
theorem stickfulref20_Same.calls (k : Nat) (A0 : Option Addr) (c0 : Nat) (l0 : List Int) (A1 : Option Addr) (c1 : Nat) (l1 : List Int) (r : Bool) (w : World) (hr0 : Kd.C (Kd.int .i64) w A0 l0.length l0) (hc0 : l0.length ≤ c0) (hr1 : Kd.C (Kd.int .i64) w A1 l1.length l1) (hc1 : l1.length ≤ c1) (h : stickfulref20_Same.f k l0 l1 = some r) :
    Calls Try.prog 12 #[.slice A0 l0.length c0, .slice A1 l1.length c1] w fun e w' => e = .returned (.bool r) ∧ Drawn0 w w' := by
  have HR0 := Aside0.mk hr0
  have HC0 := Aside0.mk hc0
  clear hr0 hc0
  have HR1 := Aside0.mk hr1
  have HC1 := Aside0.mk hc1
  clear hr1 hc1
  have H : (if (l0.length : Int) = (l1.length : Int) then (stickfulref20_Same.l0 k l0 l1 0) else (some false)) = some r := h
  clear h
  by_cases c3 : (l0.length : Int) = (l1.length : Int)
  · rw [if_pos c3] at H
    have c3b0 : ((l0.length : Int) == (l1.length : Int)) = true := beq_iff_eq.mpr c3
    have c3b1 : ((l0.length : Int) != (l1.length : Int)) = false := bne_eq_false_iff_eq.mpr c3
    have c3b2 : (l0.length == l1.length) = true := by first | simpa using c3 | (simp at c3 ⊢; omega)
    clear c3
    have H' := Aside0.mk H
    clear H
    go_enter Try.func12, Try.ntmps12
    go_wp2
    repeat (go_quiet (fail); try go_wp2)
    go_loopg [5] k (fun kq v5 w' => ∃ (x5_1 : Int), v5 = .int .i64 x5_1 ∧ Aside0 (stickfulref20_Same.l0 kq l0 l1 x5_1 = some r) ∧ Aside0 (kq ≤ k) ∧ Drawn0 w w')
    case atStart => exact ⟨(0), (by first | rfl | (simp; done) | (simp [*]; done)), H', ⟨Nat.le_refl _⟩, by repeat (first | exact Drawn0.refl _ | apply Drawn0.step)⟩
    case round =>
      clear H'
      try clear c1
      try clear p2
      try clear c3
      try clear c3b0
      try clear c3b1
      try clear c3b2
      obtain ⟨x5_1, rfl, HA, HK1, ⟨m1, rfl⟩⟩ := hrel
      cases gk with
      | zero => exact absurd HA.out (by simp [stickfulref20_Same.l0])
      | succ k1 =>
        have H := HA.out
        clear HA
        simp only [stickfulref20_Same.l0] at H
        by_cases c4 : x5_1 < (l0.length : Int)
        · rw [if_pos c4] at H
          have c4b0 : decide (x5_1 < (l0.length : Int)) = true := decide_eq_true c4
          clear c4
          by_cases c5 : 0 ≤ x5_1
          · rw [if_pos c5] at H
            have c5b0 : decide (0 ≤ x5_1) = true := decide_eq_true c5
            clear c5
            by_cases c6 : x5_1 < (l1.length : Int)
            · rw [if_pos c6] at H
              have c6b0 : decide (x5_1 < (l1.length : Int)) = true := decide_eq_true c6
              clear c6
              by_cases c7 : (rd l0 x5_1) = (rd l1 x5_1)
              · rw [if_pos c7] at H
                have c7b0 : ((rd l0 x5_1) == (rd l1 x5_1)) = true := beq_iff_eq.mpr c7
                have c7b1 : ((rd l0 x5_1) != (rd l1 x5_1)) = false := bne_eq_false_iff_eq.mpr c7
                clear c7
                have H' := Aside0.mk H
                clear H
                have p105 : 0 ≤ (x5_1 : Int) := of_decide_eq_true (by first | (with_reducible assumption) | assumption)
                have q105 : x5_1 < (l0.length : Int) := of_decide_eq_true (by first | (with_reducible assumption) | assumption)
                obtain ⟨ad105, e105, hx105_0⟩ := Kd.at_int HR0.out x5_1 p105 q105
                cases e105
                replace p105 := eq_true p105
                replace q105 := eq_true q105
                have p106 : 0 ≤ (x5_1 : Int) := of_decide_eq_true (by first | (with_reducible assumption) | assumption)
                have q106 : x5_1 < (l1.length : Int) := of_decide_eq_true (by first | (with_reducible assumption) | assumption)
                obtain ⟨ad106, e106, hx106_0⟩ := Kd.at_int HR1.out x5_1 p106 q106
                cases e106
                replace p106 := eq_true p106
                replace q106 := eq_true q106
                go_wp2
                repeat (go_quiet (fail); try go_wp2)
                go_roundg k1
                case measure => have := HK1.out; omega
                case rel => exact ⟨(wrap64 (x5_1 + 1)), (by first | rfl | (simp; done) | (simp [*]; done)), H', ⟨by have := HK1.out; omega⟩, by repeat (first | exact Drawn0.refl _ | apply Drawn0.step)⟩
              · rw [if_neg c7] at H
                have c7b0 : ((rd l0 x5_1) == (rd l1 x5_1)) = false := beq_eq_false_iff_ne.mpr c7
                have c7b1 : ((rd l0 x5_1) != (rd l1 x5_1)) = true := bne_iff_ne.mpr c7
                obtain rfl := Option.some.inj H
                have p105 : 0 ≤ (x5_1 : Int) := of_decide_eq_true (by first | (with_reducible assumption) | assumption)
                have q105 : x5_1 < (l0.length : Int) := of_decide_eq_true (by first | (with_reducible assumption) | assumption)
                obtain ⟨ad105, e105, hx105_0⟩ := Kd.at_int HR0.out x5_1 p105 q105
                cases e105
                replace p105 := eq_true p105
                replace q105 := eq_true q105
                have p106 : 0 ≤ (x5_1 : Int) := of_decide_eq_true (by first | (with_reducible assumption) | assumption)
                have q106 : x5_1 < (l1.length : Int) := of_decide_eq_true (by first | (with_reducible assumption) | assumption)
                obtain ⟨ad106, e106, hx106_0⟩ := Kd.at_int HR1.out x5_1 p106 q106
                cases e106
                replace p106 := eq_true p106
                replace q106 := eq_true q106
                go_wp2
                repeat (go_quiet (fail); try go_wp2)
                go_ret
                exact ⟨by first | rfl | (simp; done) | (simp [*]; done), by repeat (first | exact Drawn0.refl _ | apply Drawn0.step)⟩
            · rw [if_neg c6] at H
              exact absurd H (by simp)
          · rw [if_neg c5] at H
            exact absurd H (by simp)
        · rw [if_neg c4] at H
          have c4b0 : decide (x5_1 < (l0.length : Int)) = false := decide_eq_false c4
          clear c4
          obtain rfl := Option.some.inj H
          go_wp2
          repeat (go_quiet (fail); try go_wp2)
          go_ret
          exact ⟨by first | rfl | (simp; done) | (simp [*]; done), by repeat (first | exact Drawn0.refl _ | apply Drawn0.step)⟩
  · rw [if_neg c3] at H
    have c3b0 : ((l0.length : Int) == (l1.length : Int)) = false := beq_eq_false_iff_ne.mpr c3
    have c3b1 : ((l0.length : Int) != (l1.length : Int)) = true := bne_iff_ne.mpr c3
    have c3b2 : (l0.length == l1.length) = false := by first | simpa using c3 | (simp at c3 ⊢; omega)
    obtain rfl := Option.some.inj H
    go_enter Try.func12, Try.ntmps12
    go_wp2
    repeat (go_quiet (fail); try go_wp2)
    go_ret
    exact ⟨by first | rfl | (simp; done) | (simp [*]; done), by repeat (first | exact Drawn0.refl _ | apply Drawn0.step)⟩

/-! ### span_Tops: function 14 -/
def span_Tops.l0 : Nat → List Int → List (S23) → Int → Int → Option (List Int × Int)
  | 0, _, _, _, _ => none
  | k + 1, x4, x11, x12, x13 => if x13 < x12 then (if 0 ≤ x13 then (if x13 < (x11.length : Int) then ((span_may.f (([(rd_T23 x11 x13).f0, (rd_T23 x11 x13).f1] : List Int))).bind fun t115 => (if t115 = true then (if x13 < (x4.length : Int) then ((span_high.f ((rd_T23 x11 x13).f0) ((rd_T23 x11 x13).f1)).bind fun t117 => (if x4.length < 17592186044416 then (span_Tops.l0 k (x4 ++ [wrap64 ((rd x4 x13) + t117)]) x11 x12 (wrap64 (x13 + 1))) else (none))) else (none)) else (some (([] : List Int), 2)))) else (none)) else (none)) else (some (x4, 0))
def span_Tops.f (k : Nat) (l0 : List (S23)) : Option (List Int × Int) := if (l0.length : Int) > 65536 then (some (([] : List Int), 2)) else (span_Tops.l0 k (([0] : List Int)) l0 (l0.length : Int) 0)
theorem span_Tops.mono_l : ∀ k, (∀ y0 y1 y2 y3, LeO (span_Tops.l0 k y0 y1 y2 y3) (span_Tops.l0 (k + 1) y0 y1 y2 y3))
  | 0 => fun _ _ _ _ r h => by simp [span_Tops.l0] at h
  | k + 1 => by
    have ih0 := span_Tops.mono_l k
    · intro y0 y1 y2 y3
      unfold span_Tops.l0
      repeat' first
      | (with_reducible exact ih0 _ _ _ _)
      | (with_reducible exact LeO.refl _)
      | (with_reducible exact LeO.none _)
      | (with_reducible refine LeO.ite ?_ ?_)
      | (with_reducible refine LeO.bind ?_ (fun _ => ?_))
      | exact ih0 _ _ _ _
      | exact LeO.none _
      | refine LeO.ite ?_ ?_
      | refine LeO.bind ?_ (fun _ => ?_)
theorem span_Tops.mono : ∀ a0 k, LeO (span_Tops.f k a0) (span_Tops.f (k + 1) a0) := by
  intro a0 k
  have ih0 := span_Tops.mono_l k
  unfold span_Tops.f
  repeat' first
      | (with_reducible exact ih0 _ _ _ _)
      | (with_reducible exact LeO.refl _)
      | (with_reducible exact LeO.none _)
      | (with_reducible refine LeO.ite ?_ ?_)
      | (with_reducible refine LeO.bind ?_ (fun _ => ?_))
      | exact ih0 _ _ _ _
      | exact LeO.none _
      | refine LeO.ite ?_ ?_
      | refine LeO.bind ?_ (fun _ => ?_)
def span_Tops.T9 : Bool × List (List Nat × List Nat) := (true, [([], []), ([], []), ([], []), ([1, 2], [1, 2]), ([3], [3]), ([], []), ([5], [5]), ([4, 6], [4, 6]), ([7], [7]), ([0, 8, 6], [0, 8]), ([9, 9, 0, 1, 2, 3, 4, 5, 6, 7, 8, 9], [0, 1, 9])])
def span_Tops.B9 : List Nat := [0, 0, 0, 6, 14, 0, 32, 126, 254, 511, 1023]
theorem span_Tops.tab9 : rtab .any (opsOf Try.f14 9) = span_Tops.T9 := by kernel_rfl
theorem span_Tops.bits9 : waitsOk span_Tops.T9.2 span_Tops.B9 = true := by kernel_rfl
set_option maxHeartbeats 8000000 in
set_option maxRecDepth 100000 in
theorem span_Tops.calls (k : Nat) (A0 : Option Addr) (c0 : Nat) (l0 : List (S23)) (r1 : List Int) (r2 : Int) (w : World) (hr0 : Kd.C k23 w A0 l0.length l0) (hc0 : l0.length ≤ c0) (h : span_Tops.f k l0 = some (r1, r2)) :
    Calls Try.prog 14 #[.slice A0 l0.length c0] w fun e w' => ∃ v0_ : Value, e = .returned (.tuple #[v0_, .int .i64 r2]) ∧ Kd.R (Kd.int .i64) 2 w' w.heap.size (fun _ => True) v0_ r1 ∧ Below w.heap.size w w' := by
  have hu23 := Try.underlying23
  have HR0 := Aside0.mk hr0
  have HC0 := Aside0.mk hc0
  clear hr0 hc0
  have HB := Aside0.mk (Below.refl w.heap.size w)
  have H : (if (l0.length : Int) > 65536 then (some (([] : List Int), 2)) else (span_Tops.l0 k (([0] : List Int)) l0 (l0.length : Int) 0)) = some (r1, r2) := h
  clear h
  by_cases c2 : (l0.length : Int) > 65536
  · rw [if_pos c2] at H
    have c2b0 : decide (65536 < (l0.length : Int)) = true := decide_eq_true c2
    have c2b1 : decide (65536 < l0.length) = true := decide_eq_true (by omega)
    clear c2
    simp only [Option.some.injEq, Prod.mk.injEq] at H
    obtain ⟨rfl, rfl⟩ := H
    go_enter Try.func14, Try.ntmps14
    go_wp2
    go_ret2
    exact ⟨_, by first | rfl | (simp [errW_none, errW_some] <;> rfl) | (simp [*, errW_none, errW_some] <;> rfl), by first | exact Kd.R_nil _ _ _ _ _ | exact Kd.N_nil _ _ _ _ _ | exact Kd.V_nil _ _ _ _ _ | exact Kd.Q_nil _ _ _ _ _ | exact Kd.S_nil _ _ _ _ _, by repeat (first | (with_reducible first | exact HB.out | apply below_alloc | apply pw_below_drewN | apply below_drew1) | exact HB.out)⟩
  · rw [if_neg c2] at H
    have c2b0 : decide (65536 < (l0.length : Int)) = false := decide_eq_false c2
    have c2b1 : decide (65536 < l0.length) = false := decide_eq_false (by omega)
    clear c2
    obtain ⟨y107, hy107⟩ : ∃ y_ : List Int, y_ = (([0] : List Int)) := ⟨_, rfl⟩
    replace H : (span_Tops.l0 k y107 l0 (l0.length : Int) 0) = some (r1, r2) := by first | (rw [hy107]; with_reducible exact H) | (have H2_ := (Option.bind_some _ _).symm.trans H; rw [hy107]; with_reducible exact H2_) | (have H2_ := (Option.bind_some _ _).symm.trans H; with_reducible exact H2_) | with_reducible exact H | (rw [hy107]; exact H) | exact H
    have Ny107 := Aside0.mk hy107
    clear hy107
    have H' := Aside0.mk H
    clear H
    go_enter Try.func14, Try.ntmps14
    go_wp2_with (first | ((with_reducible refine gate_dst (N := 10) rfl ?_); refine Kd.R_lit (Kd.int .i64) _ 2 ?hg (N := 10) ?hd (xs := ([0] : List Int)) (inner := [.int .i64 0]) (ok := fun _ => True) (okp := fun _ => True) ?hr ?hp (fun _ hk => hk) trivial (Below.refl _ _) (Nat.le_refl _) (by simp) ?_; (case hd => rfl); (case hg => rfl); (case hr => first | (go_simp; done) | (go_simp; rfl)); (case hp => exact (Reps.one (show Kd.M (Kd.int .i64) _ _ _ 0 [.int .i64 0] from rfl) (Reps.none _ _))); intro v108 w3 ho4 hb hg_ hnew_; clear hg_ hnew_; (first | rw [← Ny107.out] at ho4 | (simp only [Int.reduceToNat] at ho4; rw [← Ny107.out] at ho4)); have HO109 := Aside0.mk (Kd.R_lower ho4 (below_size (bw HB))); replace HB := bh HB hb; clear hb ho4))
    go_loopg [4, 13] k (fun kq v4 v13 w' => ∃ (x4_1 : List Int) (x13_1 : Int), v13 = .int .i64 x13_1 ∧ Aside0 (span_Tops.l0 kq x4_1 l0 (l0.length : Int) x13_1 = some (r1, r2)) ∧ Aside0 (kq ≤ k) ∧ Aside0 (Kd.R (Kd.int .i64) 2 w' w.heap.size (fun _ => True) v4 x4_1) ∧ Aside0 (Below w.heap.size w w'))
    case atStart => exact ⟨(y107), (0), (by first | rfl | (simp; done) | (simp [*]; done)), H', ⟨Nat.le_refl _⟩, ⟨by (with_reducible repeat (first | apply Kd.R_alloc | apply Kd.R_drewN | apply Kd.R_drew)); exact HO109.out⟩, ⟨by repeat (first | (with_reducible first | exact HB.out | apply below_alloc | apply pw_below_drewN | apply below_drew1) | exact HB.out)⟩⟩
    case round =>
      clear H'
      try clear c1
      try clear c2
      try clear c2b0
      try clear c2b1
      try clear p2
      obtain ⟨x4_1, x13_1, rfl, HA, HK1, HO_4, HB⟩ := hrel
      cases gk with
      | zero => exact absurd HA.out (by simp [span_Tops.l0])
      | succ k1 =>
        have H := HA.out
        clear HA
        simp only [span_Tops.l0] at H
        by_cases c5 : x13_1 < (l0.length : Int)
        · rw [if_pos c5] at H
          have c5b0 : decide (x13_1 < (l0.length : Int)) = true := decide_eq_true c5
          clear c5
          by_cases c6 : 0 ≤ x13_1
          · rw [if_pos c6] at H
            have c6b0 : decide (0 ≤ x13_1) = true := decide_eq_true c6
            clear c6
            by_cases c7 : x13_1 < (l0.length : Int)
            · rw [if_pos c7] at H
              have c7b0 : decide (x13_1 < (l0.length : Int)) = true := decide_eq_true c7
              clear c7
              obtain ⟨y112, hy112⟩ : ∃ y_ : List Int, y_ = (([(rd_T23 l0 x13_1).f0, (rd_T23 l0 x13_1).f1] : List Int)) := ⟨_, rfl⟩
              replace H : ((span_may.f y112).bind fun t115 => (if t115 = true then (if x13_1 < (x4_1.length : Int) then ((span_high.f ((rd_T23 l0 x13_1).f0) ((rd_T23 l0 x13_1).f1)).bind fun t117 => (if x4_1.length < 17592186044416 then (span_Tops.l0 k1 (x4_1 ++ [wrap64 ((rd x4_1 x13_1) + t117)]) l0 (l0.length : Int) (wrap64 (x13_1 + 1))) else (none))) else (none)) else (some (([] : List Int), 2)))) = some (r1, r2) := by first | (rw [hy112]; with_reducible exact H) | (have H2_ := (Option.bind_some _ _).symm.trans H; rw [hy112]; with_reducible exact H2_) | (have H2_ := (Option.bind_some _ _).symm.trans H; with_reducible exact H2_) | with_reducible exact H | (rw [hy112]; exact H) | exact H
              have Ny112 := Aside0.mk hy112
              clear hy112
              replace H := Option.bind_eq_some_iff.mp H
              obtain ⟨t115, A80, H⟩ := H
              replace H : (if t115 = true then (if x13_1 < (x4_1.length : Int) then ((span_high.f ((rd_T23 l0 x13_1).f0) ((rd_T23 l0 x13_1).f1)).bind fun t117 => (if x4_1.length < 17592186044416 then (span_Tops.l0 k1 (x4_1 ++ [wrap64 ((rd x4_1 x13_1) + t117)]) l0 (l0.length : Int) (wrap64 (x13_1 + 1))) else (none))) else (none)) else (some (([] : List Int), 2))) = some (r1, r2) := H
              have A8 := Aside0.mk A80
              clear A80
              by_cases c9 : t115 = true
              · subst c9
                have H1 : (if x13_1 < (x4_1.length : Int) then ((span_high.f ((rd_T23 l0 x13_1).f0) ((rd_T23 l0 x13_1).f1)).bind fun t117 => (if x4_1.length < 17592186044416 then (span_Tops.l0 k1 (x4_1 ++ [wrap64 ((rd x4_1 x13_1) + t117)]) l0 (l0.length : Int) (wrap64 (x13_1 + 1))) else (none))) else (none)) = some (r1, r2) := by rw [if_pos rfl] at H; exact H
                clear H
                have H := H1
                clear H1
                by_cases c10 : x13_1 < (x4_1.length : Int)
                · rw [if_pos c10] at H
                  have c10b0 : decide (x13_1 < (x4_1.length : Int)) = true := decide_eq_true c10
                  clear c10
                  replace H := Option.bind_eq_some_iff.mp H
                  obtain ⟨t117, A110, H⟩ := H
                  replace H : (if x4_1.length < 17592186044416 then (span_Tops.l0 k1 (x4_1 ++ [wrap64 ((rd x4_1 x13_1) + t117)]) l0 (l0.length : Int) (wrap64 (x13_1 + 1))) else (none)) = some (r1, r2) := H
                  have A11 := Aside0.mk A110
                  clear A110
                  by_cases c12 : x4_1.length < 17592186044416
                  · rw [if_pos c12] at H
                    have LMc12 := Aside0.mk c12
                    clear c12
                    obtain ⟨y118, hy118⟩ : ∃ y_ : List Int, y_ = (x4_1 ++ [wrap64 ((rd x4_1 x13_1) + t117)]) := ⟨_, rfl⟩
                    replace H : (span_Tops.l0 k1 y118 l0 (l0.length : Int) (wrap64 (x13_1 + 1))) = some (r1, r2) := by first | (rw [hy118]; with_reducible exact H) | (have H2_ := (Option.bind_some _ _).symm.trans H; rw [hy118]; with_reducible exact H2_) | (have H2_ := (Option.bind_some _ _).symm.trans H; with_reducible exact H2_) | with_reducible exact H | (rw [hy118]; exact H) | exact H
                    have Ny118 := Aside0.mk hy118
                    clear hy118
                    have H' := Aside0.mk H
                    clear H
                    have p110 : 0 ≤ (x13_1 : Int) := of_decide_eq_true (by first | (with_reducible assumption) | assumption)
                    have q110 : x13_1 < (l0.length : Int) := of_decide_eq_true (by first | (with_reducible assumption) | assumption)
                    obtain ⟨ad110, e110, hx110_0, hx110_1⟩ := at_T23 HR0.out x13_1 p110 q110
                    cases e110
                    replace hx110_0 := (HB.out.cell (World.block_lt_of_cell? w _ hx110_0)).trans hx110_0
                    replace hx110_1 := (HB.out.cell (World.block_lt_of_cell? w _ hx110_1)).trans hx110_1
                    replace p110 := eq_true p110
                    replace q110 := eq_true q110
                    try go_wp2_with (first | ((with_reducible refine gate_dst (N := 6) rfl ?_); refine box_event ?hg (N := 6) ?hd (cs := #[.int .i64 0, .int .i64 0]) (t := 23) ?hr ?_; (case hd => rfl); (case hg => rfl); (case hr => first | (go_simp; done) | (go_simp; rfl)); intro gb111 hg w13 hbox hb; replace HO_4 := Aside0.mk (Kd.R_below (rx HO_4) hb); have BK111 := Aside0.mk (hbox); have GW111 := bge HB hg; have GE111 := bge HB hg; replace HB := bh HB hb; clear hb hbox hg; obtain ⟨hcz14_0, hcz14_1⟩ := cz2 BK111; obtain ⟨hfz14_0, hfz14_1⟩ := fz2 BK111) | ((with_reducible refine gate_dst (N := 22) rfl ?_); refine Kd.R_lit (Kd.int .i64) _ 2 ?hg (N := 22) ?hd (xs := ([(rd_T23 l0 x13_1).f0, (rd_T23 l0 x13_1).f1] : List Int)) (inner := [.int .i64 ((rd_T23 l0 x13_1).f0), .int .i64 ((rd_T23 l0 x13_1).f1)]) (ok := fun _ => True) (okp := fun _ => True) ?hr ?hp (fun _ hk => hk) trivial (Below.refl _ _) (Nat.le_refl _) (by simp) ?_; (case hd => rfl); (case hg => rfl); (case hr => first | (go_simp; done) | (go_simp; rfl)); (case hp => exact (Reps.one (show Kd.M (Kd.int .i64) _ _ _ ((rd_T23 l0 x13_1).f0) [.int .i64 ((rd_T23 l0 x13_1).f0)] from rfl) (Reps.one (show Kd.M (Kd.int .i64) _ _ _ ((rd_T23 l0 x13_1).f1) [.int .i64 ((rd_T23 l0 x13_1).f1)] from rfl) (Reps.none _ _)))); intro v113 w15 ho16 hb hg_ hnew_; clear hg_ hnew_; (first | rw [← Ny112.out] at ho16 | (simp only [Int.reduceToNat] at ho16; rw [← Ny112.out] at ho16)); have HO114 := Aside0.mk (Kd.R_lower (Kd.R_new' ho16 (Kd.R_lt (by (with_reducible repeat (first | apply Kd.R_alloc | apply Kd.R_drewN | apply Kd.R_drew)); exact (Kd.R_mono (Kd.R_far (p := ⟨gb111, 1, none⟩) (Kd.R_far (p := ⟨gb111, 0, none⟩) (Kd.R_types HO_4.out BK111.out (by decide)) (fun _ hk => hk.2) (.int .i64 ((rd_T23 l0 x13_1).f0))) (fun _ hk => hk.2) (.int .i64 ((rd_T23 l0 x13_1).f1))) (fun _ h_ => h_.1))))) (below_size (bw HB))); replace HO_4 := Aside0.mk (Kd.R_elder' (by (with_reducible repeat (first | apply Kd.R_alloc | apply Kd.R_drewN | apply Kd.R_drew)); exact (Kd.R_mono (Kd.R_far (p := ⟨gb111, 1, none⟩) (Kd.R_far (p := ⟨gb111, 0, none⟩) (Kd.R_types HO_4.out BK111.out (by decide)) (fun _ hk => hk.2) (.int .i64 ((rd_T23 l0 x13_1).f0))) (fun _ hk => hk.2) (.int .i64 ((rd_T23 l0 x13_1).f1))) (fun _ h_ => h_.1))) (Kd.R_base ho16) hb); replace BK111 := Aside0.mk (blk_below (o := .cells #[.int .i64 ((rd_T23 l0 x13_1).f0), .int .i64 ((rd_T23 l0 x13_1).f1)] 23 (0, 0)) (bp BK111) hb); replace HB := bh HB hb; clear hb ho16; obtain ⟨Ao17, co17, eo17⟩ := Kd.R_slice HO114.out; subst eo17) | ((with_reducible refine gate_callee (f := 15) rfl ?_); refine goesB (some 23) rfl rfl Try.func15 #[.slice Ao17 y112.length co17] rfl ?_; (with_reducible refine (span_may.calls _ _ y112 true _ ?side1 ?side2 A8.out).mono ?_); (case side1 => repeat (first | exact (Kd.R_reads' HO114.out).2.2 | (with_reducible refine Kd.C_alloc ?_ _) | (with_reducible refine Kd.C_drewN ?_ _) | (with_reducible refine Kd.C_drew ?_))); (case side2 => exact (Kd.R_reads' HO114.out).2.1); rintro e w18 ⟨rfl, hb⟩; refine ⟨_, rfl, ?_⟩; replace HO_4 := Aside0.mk (Kd.R_below (rx HO_4) hb); replace HO114 := Aside0.mk (Kd.R_below (rx HO114) hb); replace BK111 := bb BK111 hb; replace HB := bh HB hb; (try clear hb); (try clear hb2); (try clear hk); (try clear hi)))
                    replace HO_4 := Aside0.mk (Kd.R_drew HO_4.out)
                    replace HO114 := Aside0.mk (Kd.R_drew HO114.out)
                    replace BK111 := Aside0.mk (blk_drew BK111.out)
                    replace HB := Aside0.mk (below_drew1 HB.out)
                    obtain ⟨Ao20, co20, eo20⟩ := Kd.R_slice HO_4.out
                    (first | subst eo20 | (injection eo20 with f1_ f2_ f3_; have f4_ := f1_.symm; have f5_ := f3_.symm; clear f1_ f2_ f3_; subst f4_; subst f5_))
                    have p116 : 0 ≤ (x13_1 : Int) := of_decide_eq_true (by first | (with_reducible assumption) | assumption)
                    have q116 : x13_1 < (x4_1.length : Int) := of_decide_eq_true (by first | (with_reducible assumption) | assumption)
                    obtain ⟨ad116, e116, hx116_0⟩ := Kd.at_int (Kd.R_reads' HO_4.out).2.2 x13_1 p116 q116
                    cases e116
                    replace p116 := eq_true p116
                    replace q116 := eq_true q116
                    refine start_ (n := 11) (S := fun w' => w'.cell? ⟨gb111, 0, none⟩ = some (.int .i64 ((rd_T23 l0 x13_1).f0)) ∧ w'.cell? ⟨gb111, 1, none⟩ = some (.int .i64 ((rd_T23 l0 x13_1).f1)) ∧ w'.cell? (ad116.add (x13_1).toNat) = some (.int .i64 (rd x4_1 x13_1))) (ds := [8, 9]) #[false, false, false, false, false, false, false, false, false, false, false] (by kernel_rfl) rfl rfl ⟨bc BK111 0, bc BK111 1, hx116_0⟩ (fun hHeld => ?_); refine with_tabW span_Tops.tab9 span_Tops.bits9 (fun HT_ HW_ => ?_)
                    generalize w18.drew = w19 at HO_4 HO114 BK111 HB hx116_0 hHeld ⊢
                    refine pure_ (i := 0) (N := some 25) (v := ?_) (a' := ?_) #[true, false, false, false, false, false, false, false, false, false, false] rfl rfl (any_of HT_.out (by kernel_rfl)) (fun _ _ _ h => h) (Or.inl ⟨by rfl, ?_⟩) ?_ ?_
                    rotate_left
                    · intro w'
                      go_simp
                      with_reducible rfl
                    rotate_left
                    · simp only [Act.put, List.setIfInBounds_toArray, List.set_cons_zero, List.set_cons_succ, i64_w, i32_w]
                      rfl
                    refine pure_ (i := 1) (N := some 26) (v := ?_) (a' := ?_) #[true, true, false, false, false, false, false, false, false, false, false] rfl rfl (any_of HT_.out (by kernel_rfl)) (fun _ _ _ h => h) (Or.inl ⟨by rfl, ?_⟩) ?_ ?_
                    rotate_left
                    · intro w'
                      go_simp
                      with_reducible rfl
                    rotate_left
                    · simp only [Act.put, List.setIfInBounds_toArray, List.set_cons_zero, List.set_cons_succ, i64_w, i32_w]
                      rfl
                    refine pure_ (i := 2) (N := some 27) (v := ?_) (a' := ?_) #[true, true, true, false, false, false, false, false, false, false, false] rfl rfl (any_of HT_.out (by kernel_rfl)) (fun _ _ _ h => h) (Or.inl ⟨by rfl, ?_⟩) ?_ ?_
                    rotate_left
                    · intro w'
                      go_simp
                      with_reducible rfl
                    rotate_left
                    · simp only [Act.put, List.setIfInBounds_toArray, List.set_cons_zero, List.set_cons_succ, i64_w, i32_w]
                      rfl
                    refine pure_ (i := 3) (N := some 28) (v := ?_) (a' := ?_) #[true, true, true, true, false, false, false, false, false, false, false] rfl rfl (any_of HT_.out (by kernel_rfl)) (fun _ _ _ h => h) (Or.inl ⟨by rfl, ?_⟩) ?_ ?_
                    rotate_left
                    · intro w'
                      go_simp
                      with_reducible rfl
                    rotate_left
                    · simp only [Act.put, List.setIfInBounds_toArray, List.set_cons_zero, List.set_cons_succ, i64_w, i32_w]
                      rfl
                    refine take_ (i := 4) (N := some 29) (v := ?_) (a' := ?_) #[true, true, true, true, true, false, false, false, false, false, false] rfl rfl (take_ofW HT_.out HW_.out (by kernel_rfl)) (fun _ _ _ h => h) (Or.inl ⟨by rfl, ?_⟩) hHeld ?_ ?_
                    rotate_left
                    · rintro w' ⟨s0, s1, s2⟩
                      go_simp
                      with_reducible rfl
                    rotate_left
                    · simp only [Act.put, List.setIfInBounds_toArray, List.set_cons_zero, List.set_cons_succ, i64_w, i32_w]
                      rfl
                    refine take_ (i := 5) (N := some 30) (v := ?_) (a' := ?_) #[true, true, true, true, true, true, false, false, false, false, false] rfl rfl (take_ofW HT_.out HW_.out (by kernel_rfl)) (fun _ _ _ h => h) (Or.inl ⟨by rfl, ?_⟩) hHeld ?_ ?_
                    rotate_left
                    · rintro w' ⟨s0, s1, s2⟩
                      go_simp
                      with_reducible rfl
                    rotate_left
                    · simp only [Act.put, List.setIfInBounds_toArray, List.set_cons_zero, List.set_cons_succ, i64_w, i32_w]
                      rfl
                    refine one_ (i := 6) (N := some 31) #[true, true, true, true, true, true, true, false, false, false, false] rfl rfl (one_of HT_.out (by kernel_rfl)) (by decide) (fun K hK => ?_)
                    refine goes_ Try.func24 (by kernel_rfl) rfl #[.agg #[.int .i64 ((rd_T23 l0 x13_1).f0), .int .i64 ((rd_T23 l0 x13_1).f1)]] (by rfl) rfl rfl (by (try simp only [List.map_toArray, List.map_cons, List.map_nil]); first | done | rfl | (simp only [List.length_drop, List.length_take]; rfl)) ?_
                    with_reducible refine (span_high.calls ((rd_T23 l0 x13_1).f0) ((rd_T23 l0 x13_1).f1) t117 _ A11.out).mono ?_
                    rintro e w21 ⟨rfl, hb⟩
                    have HS2_ := (hb.cell (World.block_lt_of_cell? _ _ (hHeld.2.2))).trans (hHeld.2.2)
                    refine ⟨_, rfl, ?_⟩
                    replace HO_4 := Aside0.mk (Kd.R_below (rx HO_4) hb)
                    replace HO114 := Aside0.mk (Kd.R_below (rx HO114) hb)
                    replace BK111 := bb BK111 hb
                    replace HB := bh HB hb
                    (try clear hb)
                    (try clear hb2)
                    (try clear hk)
                    (try clear hi)
                    refine hK.out _ _ ⟨bc BK111 0, bc BK111 1, HS2_⟩ (fun hHeld => ?_)
                    clear hK K
                    refine norm_ (a' := ?_) ?_ ?_
                    rotate_left
                    · show Act.put _ (some 31) _ = _
                      simp only [Act.put, List.setIfInBounds_toArray, List.set_cons_zero, List.set_cons_succ, i64_w, i32_w]
                      rfl
                    refine pure_ (i := 7) (N := some 32) (v := ?_) (a' := ?_) #[true, true, true, true, true, true, true, true, false, false, false] rfl rfl (any_of HT_.out (by kernel_rfl)) (fun _ _ _ h => h) (Or.inl ⟨by rfl, ?_⟩) ?_ ?_
                    rotate_left
                    · intro w'
                      go_simp
                      with_reducible rfl
                    rotate_left
                    · simp only [Act.put, List.setIfInBounds_toArray, List.set_cons_zero, List.set_cons_succ, i64_w, i32_w]
                      rfl
                    refine last_ (i := 8) (N := some 33) #[true, true, true, true, true, true, true, true, true, false, false] rfl rfl (one_of HT_.out (by kernel_rfl)) (by decide) (fun K hK => ?_)
                    refine value_ (w1 := ?_) (v := ?_) (by rfl) rfl ?_ ?_
                    rotate_left 2
                    · go_simp
                      constructor
                      · rfl
                      · rfl
                    refine hK.out _ _ ?_
                    clear hK K
                    refine norm_ (a' := ?_) ?_ ?_
                    rotate_left
                    · show Act.put _ (some 33) _ = _
                      simp only [Act.put, List.setIfInBounds_toArray, List.set_cons_zero, List.set_cons_succ, i64_w, i32_w]
                      rfl
                    refine last_ (i := 9) (N := some 34) #[true, true, true, true, true, true, true, true, true, true, false] rfl rfl (one_of HT_.out (by kernel_rfl)) (by decide) (fun K hK => ?_)
                    refine Kd.R_append_step (Kd.int .i64) (w0 := w) w.heap.size (by rfl) (.tmp 25) (.tmp 33) 26 2 (.int .i64 0) 8 rfl Try.underlying26 info2 rfl (by decide) (by omega) (.slice (some ad116) x4_1.length co20) x4_1 (wrap64 ((rd x4_1 x13_1) + t117)) [.int .i64 (wrap64 ((rd x4_1 x13_1) + t117))] (fun k_ => some k_ ≠ (.slice Ao17 y112.length co17 : Value).ownBlock) (fun _ => False) rfl rfl ?aP (fun _ hk => hk.elim) ?aF ?aO ?aB ?aS ?aL ?_
                    (case aP => exact rfl)
                    (case aB => exact (bw HB))
                    (case aF => exact (fun k_ hk => Kd.fresh' (Kd.R_lt (rx HO114)) k_ hk))
                    (case aO => exact (by (with_reducible repeat (first | apply Kd.R_alloc | apply Kd.R_drewN | apply Kd.R_drew)); exact Kd.R_mono HO_4.out (fun _ hk => hk.2)))
                    (case aS => exact (below_size (bw HB)))
                    (case aL => have := LMc12.out; omega)
                    intro v119 w22 ho hb hg hat
                    rw [← Ny118.out] at ho
                    replace BK111 := Aside0.mk (blk_grown (bx BK111) hg (by first | exact Kd.R_ne HO_4.out BK111.out (by decide) | exact (fun e => by have z := And.left HO_4.out _ e.symm; simp at z)))
                    replace HO114 := Aside0.mk (Kd.R_after (ok := (fun _ => True)) (rx HO114) hg hat)
                    replace HB := Aside0.mk (hb)
                    have HO120 := Aside0.mk (ho)
                    clear HO_4
                    clear ho hb hg hat
                    refine hK.out _ _ ?_
                    clear hK K
                    refine norm_ (a' := ?_) ?_ ?_
                    rotate_left
                    · show Act.put _ (some 34) _ = _
                      simp only [Act.put, List.setIfInBounds_toArray, List.set_cons_zero, List.set_cons_succ, i64_w, i32_w]
                      rfl
                    refine pure_ (i := 10) (N := some 4) (v := ?_) (a' := ?_) #[true, true, true, true, true, true, true, true, true, true, true] rfl rfl (any_of HT_.out (by kernel_rfl)) (fun _ _ _ h => h) (Or.inl ⟨by rfl, ?_⟩) ?_ ?_
                    rotate_left
                    · intro w'
                      go_simp
                      with_reducible rfl
                    rotate_left
                    · simp only [Act.put, List.setIfInBounds_toArray, List.set_cons_zero, List.set_cons_succ, i64_w, i32_w]
                      rfl
                    refine done_ (done_of HT_.out (by kernel_rfl)) ?_
                    try go_wp2
                    go_roundg k1
                    case measure => have := HK1.out; omega
                    case rel => exact ⟨(y118), (wrap64 (x13_1 + 1)), (by first | rfl | (simp; done) | (simp [*]; done)), H', ⟨by have := HK1.out; omega⟩, ⟨by (with_reducible repeat (first | apply Kd.R_alloc | apply Kd.R_drewN | apply Kd.R_drew)); exact Kd.R_mono HO120.out (fun _ hk => trivial)⟩, ⟨by repeat (first | (with_reducible first | exact HB.out | apply below_alloc | apply pw_below_drewN | apply below_drew1 | refine below_set ?_ GE111.out) | exact HB.out)⟩⟩
                  · rw [if_neg c12] at H
                    exact absurd H (by simp)
                · rw [if_neg c10] at H
                  exact absurd H (by simp)
              · replace c9 := Bool.eq_false_iff.mpr c9
                subst c9
                have H1 : (some (([] : List Int), 2)) = some (r1, r2) := by rw [if_neg (show ¬ (false = true) by decide)] at H; exact H
                clear H
                have H := H1
                clear H1
                simp only [Option.some.injEq, Prod.mk.injEq] at H
                obtain ⟨rfl, rfl⟩ := H
                have p110 : 0 ≤ (x13_1 : Int) := of_decide_eq_true (by first | (with_reducible assumption) | assumption)
                have q110 : x13_1 < (l0.length : Int) := of_decide_eq_true (by first | (with_reducible assumption) | assumption)
                obtain ⟨ad110, e110, hx110_0, hx110_1⟩ := at_T23 HR0.out x13_1 p110 q110
                cases e110
                replace hx110_0 := (HB.out.cell (World.block_lt_of_cell? w _ hx110_0)).trans hx110_0
                replace hx110_1 := (HB.out.cell (World.block_lt_of_cell? w _ hx110_1)).trans hx110_1
                replace p110 := eq_true p110
                replace q110 := eq_true q110
                go_wp2_with (first | ((with_reducible refine gate_dst (N := 6) rfl ?_); refine box_event ?hg (N := 6) ?hd (cs := #[.int .i64 0, .int .i64 0]) (t := 23) ?hr ?_; (case hd => rfl); (case hg => rfl); (case hr => first | (go_simp; done) | (go_simp; rfl)); intro gb111 hg w23 hbox hb; replace HO_4 := Aside0.mk (Kd.R_below (rx HO_4) hb); have BK111 := Aside0.mk (hbox); have GW111 := bge HB hg; have GE111 := bge HB hg; replace HB := bh HB hb; clear hb hbox hg; obtain ⟨hcz24_0, hcz24_1⟩ := cz2 BK111; obtain ⟨hfz24_0, hfz24_1⟩ := fz2 BK111) | ((with_reducible refine gate_dst (N := 22) rfl ?_); refine Kd.R_lit (Kd.int .i64) _ 2 ?hg (N := 22) ?hd (xs := ([(rd_T23 l0 x13_1).f0, (rd_T23 l0 x13_1).f1] : List Int)) (inner := [.int .i64 ((rd_T23 l0 x13_1).f0), .int .i64 ((rd_T23 l0 x13_1).f1)]) (ok := fun _ => True) (okp := fun _ => True) ?hr ?hp (fun _ hk => hk) trivial (Below.refl _ _) (Nat.le_refl _) (by simp) ?_; (case hd => rfl); (case hg => rfl); (case hr => first | (go_simp; done) | (go_simp; rfl)); (case hp => exact (Reps.one (show Kd.M (Kd.int .i64) _ _ _ ((rd_T23 l0 x13_1).f0) [.int .i64 ((rd_T23 l0 x13_1).f0)] from rfl) (Reps.one (show Kd.M (Kd.int .i64) _ _ _ ((rd_T23 l0 x13_1).f1) [.int .i64 ((rd_T23 l0 x13_1).f1)] from rfl) (Reps.none _ _)))); intro v113 w25 ho26 hb hg_ hnew_; clear hg_ hnew_; (first | rw [← Ny112.out] at ho26 | (simp only [Int.reduceToNat] at ho26; rw [← Ny112.out] at ho26)); have HO114 := Aside0.mk (Kd.R_lower (Kd.R_new' ho26 (Kd.R_lt (by (with_reducible repeat (first | apply Kd.R_alloc | apply Kd.R_drewN | apply Kd.R_drew)); exact (Kd.R_mono (Kd.R_far (p := ⟨gb111, 1, none⟩) (Kd.R_far (p := ⟨gb111, 0, none⟩) (Kd.R_types HO_4.out BK111.out (by decide)) (fun _ hk => hk.2) (.int .i64 ((rd_T23 l0 x13_1).f0))) (fun _ hk => hk.2) (.int .i64 ((rd_T23 l0 x13_1).f1))) (fun _ h_ => h_.1))))) (below_size (bw HB))); replace HO_4 := Aside0.mk (Kd.R_elder' (by (with_reducible repeat (first | apply Kd.R_alloc | apply Kd.R_drewN | apply Kd.R_drew)); exact (Kd.R_mono (Kd.R_far (p := ⟨gb111, 1, none⟩) (Kd.R_far (p := ⟨gb111, 0, none⟩) (Kd.R_types HO_4.out BK111.out (by decide)) (fun _ hk => hk.2) (.int .i64 ((rd_T23 l0 x13_1).f0))) (fun _ hk => hk.2) (.int .i64 ((rd_T23 l0 x13_1).f1))) (fun _ h_ => h_.1))) (Kd.R_base ho26) hb); replace BK111 := Aside0.mk (blk_below (o := .cells #[.int .i64 ((rd_T23 l0 x13_1).f0), .int .i64 ((rd_T23 l0 x13_1).f1)] 23 (0, 0)) (bp BK111) hb); replace HB := bh HB hb; clear hb ho26; obtain ⟨Ao27, co27, eo27⟩ := Kd.R_slice HO114.out; subst eo27) | ((with_reducible refine gate_callee (f := 15) rfl ?_); refine goesB (some 23) rfl rfl Try.func15 #[.slice Ao27 y112.length co27] rfl ?_; (with_reducible refine (span_may.calls _ _ y112 false _ ?side1 ?side2 A8.out).mono ?_); (case side1 => repeat (first | exact (Kd.R_reads' HO114.out).2.2 | (with_reducible refine Kd.C_alloc ?_ _) | (with_reducible refine Kd.C_drewN ?_ _) | (with_reducible refine Kd.C_drew ?_))); (case side2 => exact (Kd.R_reads' HO114.out).2.1); rintro e w28 ⟨rfl, hb⟩; refine ⟨_, rfl, ?_⟩; replace HO_4 := Aside0.mk (Kd.R_below (rx HO_4) hb); replace HO114 := Aside0.mk (Kd.R_below (rx HO114) hb); replace BK111 := bb BK111 hb; replace HB := bh HB hb; (try clear hb); (try clear hb2); (try clear hk); (try clear hi)))
                go_ret2
                exact ⟨_, by first | rfl | (simp [errW_none, errW_some] <;> rfl) | (simp [*, errW_none, errW_some] <;> rfl), by first | exact Kd.R_nil _ _ _ _ _ | exact Kd.N_nil _ _ _ _ _ | exact Kd.V_nil _ _ _ _ _ | exact Kd.Q_nil _ _ _ _ _ | exact Kd.S_nil _ _ _ _ _, by repeat (first | (with_reducible first | exact HB.out | apply below_alloc | apply pw_below_drewN | apply below_drew1 | refine below_set ?_ GE111.out) | exact HB.out)⟩
            · rw [if_neg c7] at H
              exact absurd H (by simp)
          · rw [if_neg c6] at H
            exact absurd H (by simp)
        · rw [if_neg c5] at H
          have c5b0 : decide (x13_1 < (l0.length : Int)) = false := decide_eq_false c5
          clear c5
          simp only [Option.some.injEq, Prod.mk.injEq] at H
          obtain ⟨rfl, rfl⟩ := H
          go_wp2
          go_ret2
          exact ⟨_, by first | rfl | (simp [errW_none, errW_some] <;> rfl) | (simp [*, errW_none, errW_some] <;> rfl), by (with_reducible repeat (first | apply Kd.R_alloc | apply Kd.R_drewN | apply Kd.R_drew)); exact HO_4.out, by repeat (first | (with_reducible first | exact HB.out | apply below_alloc | apply pw_below_drewN | apply below_drew1) | exact HB.out)⟩

/-! ### stickfullaw20_head: function 9 -/
def stickfullaw20_head.f (k : Nat)  : Option (Bool) := (span_Line.f 12 4 ([] : List (S35))).bind fun bt122 => ((span_Line.f 12 4 (([(⟨(⟨20, 4⟩ : S23), 0, 1⟩ : S35), (⟨(⟨30, 2⟩ : S23), 0, 2⟩ : S35)] : List (S35)))).bind fun bt132 => ((span_Line.f 12 4 (([(⟨(⟨30, 2⟩ : S23), 0, 1⟩ : S35), (⟨(⟨10, 2⟩ : S23), 0, 2⟩ : S35)] : List (S35)))).bind fun bt142 => ((span_Tops.f k (([(⟨12, 4⟩ : S23), (⟨12, 4⟩ : S23)] : List (S23)))).bind fun bt152 => (if (bt122.1 == 12 && (bt122.2.1 == 4)) = true then (if bt122.2.2.2 = 0 then (if (bt132.1 == 28 && (bt132.2.1 == 4)) = true then ((stickfulref20_Same.f k bt132.2.2.1 (([8, (-2)] : List Int))).bind fun t159 => (if t159 = true then (if bt132.2.2.2 = 0 then (if (bt142.1 == 12 && (bt142.2.1 == 20)) = true then ((stickfulref20_Same.f k bt142.2.2.1 (([(-18), (-18)] : List Int))).bind fun t163 => (if t163 = true then (if bt142.2.2.2 = 0 then ((stickfulref20_Same.f k bt152.1 (([0, 16, 32] : List Int))).bind fun t167 => (if t167 = true then (some (bt152.2 == 0)) else (some false))) else (some false)) else (some false))) else (some false)) else (some false)) else (some false))) else (some false)) else (some false)) else (some false)))))
theorem stickfullaw20_head.mono : ∀ k, LeO (stickfullaw20_head.f k ) (stickfullaw20_head.f (k + 1) ) := by
  intro  k
  unfold stickfullaw20_head.f
  repeat' first
      | (with_reducible exact span_Tops.mono _ _)
      | (with_reducible exact stickfulref20_Same.mono _ _ _)
      | (with_reducible exact LeO.refl _)
      | (with_reducible exact LeO.none _)
      | (with_reducible refine LeO.ite ?_ ?_)
      | (with_reducible refine LeO.bind ?_ (fun _ => ?_))
      | exact span_Tops.mono _ _
      | exact stickfulref20_Same.mono _ _ _
      | exact LeO.none _
      | refine LeO.ite ?_ ?_
      | refine LeO.bind ?_ (fun _ => ?_)
set_option maxHeartbeats 8000000 in
set_option maxRecDepth 100000 in
theorem stickfullaw20_head.calls_t (k : Nat)  (r : Bool) (w : World) (h : stickfullaw20_head.f k  = some r) (hr_ : r = true) :
    Calls Try.prog 9 #[] w fun e w' => e = .returned (.bool r) ∧ Below w.heap.size w w' := by
  have hu23 := Try.underlying23
  have hu35 := Try.underlying35
  have HR_ := Aside0.mk hr_
  clear hr_
  have HB := Aside0.mk (Below.refl w.heap.size w)
  have H : ((span_Line.f 12 4 ([] : List (S35))).bind fun bt122 => ((span_Line.f 12 4 (([(⟨(⟨20, 4⟩ : S23), 0, 1⟩ : S35), (⟨(⟨30, 2⟩ : S23), 0, 2⟩ : S35)] : List (S35)))).bind fun bt132 => ((span_Line.f 12 4 (([(⟨(⟨30, 2⟩ : S23), 0, 1⟩ : S35), (⟨(⟨10, 2⟩ : S23), 0, 2⟩ : S35)] : List (S35)))).bind fun bt142 => ((span_Tops.f k (([(⟨12, 4⟩ : S23), (⟨12, 4⟩ : S23)] : List (S23)))).bind fun bt152 => (if (bt122.1 == 12 && (bt122.2.1 == 4)) = true then (if bt122.2.2.2 = 0 then (if (bt132.1 == 28 && (bt132.2.1 == 4)) = true then ((stickfulref20_Same.f k bt132.2.2.1 (([8, (-2)] : List Int))).bind fun t159 => (if t159 = true then (if bt132.2.2.2 = 0 then (if (bt142.1 == 12 && (bt142.2.1 == 20)) = true then ((stickfulref20_Same.f k bt142.2.2.1 (([(-18), (-18)] : List Int))).bind fun t163 => (if t163 = true then (if bt142.2.2.2 = 0 then ((stickfulref20_Same.f k bt152.1 (([0, 16, 32] : List Int))).bind fun t167 => (if t167 = true then (some (bt152.2 == 0)) else (some false))) else (some false)) else (some false))) else (some false)) else (some false)) else (some false))) else (some false)) else (some false)) else (some false)))))) = some r := h
  clear h
  replace H := Option.bind_eq_some_iff.mp H
  obtain ⟨⟨t122, t123, t124, t127⟩, A10, H⟩ := H
  replace H : ((span_Line.f 12 4 (([(⟨(⟨20, 4⟩ : S23), 0, 1⟩ : S35), (⟨(⟨30, 2⟩ : S23), 0, 2⟩ : S35)] : List (S35)))).bind fun bt132 => ((span_Line.f 12 4 (([(⟨(⟨30, 2⟩ : S23), 0, 1⟩ : S35), (⟨(⟨10, 2⟩ : S23), 0, 2⟩ : S35)] : List (S35)))).bind fun bt142 => ((span_Tops.f k (([(⟨12, 4⟩ : S23), (⟨12, 4⟩ : S23)] : List (S23)))).bind fun bt152 => (if (t122 == 12 && (t123 == 4)) = true then (if t127 = 0 then (if (bt132.1 == 28 && (bt132.2.1 == 4)) = true then ((stickfulref20_Same.f k bt132.2.2.1 (([8, (-2)] : List Int))).bind fun t159 => (if t159 = true then (if bt132.2.2.2 = 0 then (if (bt142.1 == 12 && (bt142.2.1 == 20)) = true then ((stickfulref20_Same.f k bt142.2.2.1 (([(-18), (-18)] : List Int))).bind fun t163 => (if t163 = true then (if bt142.2.2.2 = 0 then ((stickfulref20_Same.f k bt152.1 (([0, 16, 32] : List Int))).bind fun t167 => (if t167 = true then (some (bt152.2 == 0)) else (some false))) else (some false)) else (some false))) else (some false)) else (some false)) else (some false))) else (some false)) else (some false)) else (some false))))) = some r := H
  have A1 := Aside0.mk A10
  clear A10
  obtain ⟨y129, hy129⟩ : ∃ y_ : List (S35), y_ = (([(⟨(⟨20, 4⟩ : S23), 0, 1⟩ : S35), (⟨(⟨30, 2⟩ : S23), 0, 2⟩ : S35)] : List (S35))) := ⟨_, rfl⟩
  replace H : ((span_Line.f 12 4 y129).bind fun bt132 => ((span_Line.f 12 4 (([(⟨(⟨30, 2⟩ : S23), 0, 1⟩ : S35), (⟨(⟨10, 2⟩ : S23), 0, 2⟩ : S35)] : List (S35)))).bind fun bt142 => ((span_Tops.f k (([(⟨12, 4⟩ : S23), (⟨12, 4⟩ : S23)] : List (S23)))).bind fun bt152 => (if (t122 == 12 && (t123 == 4)) = true then (if t127 = 0 then (if (bt132.1 == 28 && (bt132.2.1 == 4)) = true then ((stickfulref20_Same.f k bt132.2.2.1 (([8, (-2)] : List Int))).bind fun t159 => (if t159 = true then (if bt132.2.2.2 = 0 then (if (bt142.1 == 12 && (bt142.2.1 == 20)) = true then ((stickfulref20_Same.f k bt142.2.2.1 (([(-18), (-18)] : List Int))).bind fun t163 => (if t163 = true then (if bt142.2.2.2 = 0 then ((stickfulref20_Same.f k bt152.1 (([0, 16, 32] : List Int))).bind fun t167 => (if t167 = true then (some (bt152.2 == 0)) else (some false))) else (some false)) else (some false))) else (some false)) else (some false)) else (some false))) else (some false)) else (some false)) else (some false))))) = some r := by first | (rw [hy129]; with_reducible exact H) | (have H2_ := (Option.bind_some _ _).symm.trans H; rw [hy129]; with_reducible exact H2_) | (have H2_ := (Option.bind_some _ _).symm.trans H; with_reducible exact H2_) | with_reducible exact H | (rw [hy129]; exact H) | exact H
  have Ny129 := Aside0.mk hy129
  clear hy129
  replace H := Option.bind_eq_some_iff.mp H
  obtain ⟨⟨t132, t133, t134, t137⟩, A20, H⟩ := H
  replace H : ((span_Line.f 12 4 (([(⟨(⟨30, 2⟩ : S23), 0, 1⟩ : S35), (⟨(⟨10, 2⟩ : S23), 0, 2⟩ : S35)] : List (S35)))).bind fun bt142 => ((span_Tops.f k (([(⟨12, 4⟩ : S23), (⟨12, 4⟩ : S23)] : List (S23)))).bind fun bt152 => (if (t122 == 12 && (t123 == 4)) = true then (if t127 = 0 then (if (t132 == 28 && (t133 == 4)) = true then ((stickfulref20_Same.f k t134 (([8, (-2)] : List Int))).bind fun t159 => (if t159 = true then (if t137 = 0 then (if (bt142.1 == 12 && (bt142.2.1 == 20)) = true then ((stickfulref20_Same.f k bt142.2.2.1 (([(-18), (-18)] : List Int))).bind fun t163 => (if t163 = true then (if bt142.2.2.2 = 0 then ((stickfulref20_Same.f k bt152.1 (([0, 16, 32] : List Int))).bind fun t167 => (if t167 = true then (some (bt152.2 == 0)) else (some false))) else (some false)) else (some false))) else (some false)) else (some false)) else (some false))) else (some false)) else (some false)) else (some false)))) = some r := H
  have A2 := Aside0.mk A20
  clear A20
  obtain ⟨y139, hy139⟩ : ∃ y_ : List (S35), y_ = (([(⟨(⟨30, 2⟩ : S23), 0, 1⟩ : S35), (⟨(⟨10, 2⟩ : S23), 0, 2⟩ : S35)] : List (S35))) := ⟨_, rfl⟩
  replace H : ((span_Line.f 12 4 y139).bind fun bt142 => ((span_Tops.f k (([(⟨12, 4⟩ : S23), (⟨12, 4⟩ : S23)] : List (S23)))).bind fun bt152 => (if (t122 == 12 && (t123 == 4)) = true then (if t127 = 0 then (if (t132 == 28 && (t133 == 4)) = true then ((stickfulref20_Same.f k t134 (([8, (-2)] : List Int))).bind fun t159 => (if t159 = true then (if t137 = 0 then (if (bt142.1 == 12 && (bt142.2.1 == 20)) = true then ((stickfulref20_Same.f k bt142.2.2.1 (([(-18), (-18)] : List Int))).bind fun t163 => (if t163 = true then (if bt142.2.2.2 = 0 then ((stickfulref20_Same.f k bt152.1 (([0, 16, 32] : List Int))).bind fun t167 => (if t167 = true then (some (bt152.2 == 0)) else (some false))) else (some false)) else (some false))) else (some false)) else (some false)) else (some false))) else (some false)) else (some false)) else (some false)))) = some r := by first | (rw [hy139]; with_reducible exact H) | (have H2_ := (Option.bind_some _ _).symm.trans H; rw [hy139]; with_reducible exact H2_) | (have H2_ := (Option.bind_some _ _).symm.trans H; with_reducible exact H2_) | with_reducible exact H | (rw [hy139]; exact H) | exact H
  have Ny139 := Aside0.mk hy139
  clear hy139
  replace H := Option.bind_eq_some_iff.mp H
  obtain ⟨⟨t142, t143, t144, t147⟩, A30, H⟩ := H
  replace H : ((span_Tops.f k (([(⟨12, 4⟩ : S23), (⟨12, 4⟩ : S23)] : List (S23)))).bind fun bt152 => (if (t122 == 12 && (t123 == 4)) = true then (if t127 = 0 then (if (t132 == 28 && (t133 == 4)) = true then ((stickfulref20_Same.f k t134 (([8, (-2)] : List Int))).bind fun t159 => (if t159 = true then (if t137 = 0 then (if (t142 == 12 && (t143 == 20)) = true then ((stickfulref20_Same.f k t144 (([(-18), (-18)] : List Int))).bind fun t163 => (if t163 = true then (if t147 = 0 then ((stickfulref20_Same.f k bt152.1 (([0, 16, 32] : List Int))).bind fun t167 => (if t167 = true then (some (bt152.2 == 0)) else (some false))) else (some false)) else (some false))) else (some false)) else (some false)) else (some false))) else (some false)) else (some false)) else (some false))) = some r := H
  have A3 := Aside0.mk A30
  clear A30
  obtain ⟨y149, hy149⟩ : ∃ y_ : List (S23), y_ = (([(⟨12, 4⟩ : S23), (⟨12, 4⟩ : S23)] : List (S23))) := ⟨_, rfl⟩
  replace H : ((span_Tops.f k y149).bind fun bt152 => (if (t122 == 12 && (t123 == 4)) = true then (if t127 = 0 then (if (t132 == 28 && (t133 == 4)) = true then ((stickfulref20_Same.f k t134 (([8, (-2)] : List Int))).bind fun t159 => (if t159 = true then (if t137 = 0 then (if (t142 == 12 && (t143 == 20)) = true then ((stickfulref20_Same.f k t144 (([(-18), (-18)] : List Int))).bind fun t163 => (if t163 = true then (if t147 = 0 then ((stickfulref20_Same.f k bt152.1 (([0, 16, 32] : List Int))).bind fun t167 => (if t167 = true then (some (bt152.2 == 0)) else (some false))) else (some false)) else (some false))) else (some false)) else (some false)) else (some false))) else (some false)) else (some false)) else (some false))) = some r := by first | (rw [hy149]; with_reducible exact H) | (have H2_ := (Option.bind_some _ _).symm.trans H; rw [hy149]; with_reducible exact H2_) | (have H2_ := (Option.bind_some _ _).symm.trans H; with_reducible exact H2_) | with_reducible exact H | (rw [hy149]; exact H) | exact H
  have Ny149 := Aside0.mk hy149
  clear hy149
  replace H := Option.bind_eq_some_iff.mp H
  obtain ⟨⟨t152, t153⟩, A40, H⟩ := H
  replace H : (if (t122 == 12 && (t123 == 4)) = true then (if t127 = 0 then (if (t132 == 28 && (t133 == 4)) = true then ((stickfulref20_Same.f k t134 (([8, (-2)] : List Int))).bind fun t159 => (if t159 = true then (if t137 = 0 then (if (t142 == 12 && (t143 == 20)) = true then ((stickfulref20_Same.f k t144 (([(-18), (-18)] : List Int))).bind fun t163 => (if t163 = true then (if t147 = 0 then ((stickfulref20_Same.f k t152 (([0, 16, 32] : List Int))).bind fun t167 => (if t167 = true then (some (t153 == 0)) else (some false))) else (some false)) else (some false))) else (some false)) else (some false)) else (some false))) else (some false)) else (some false)) else (some false)) = some r := H
  have A4 := Aside0.mk A40
  clear A40
  by_cases c5 : (t122 == 12 && (t123 == 4)) = true
  · rw [if_pos c5] at H
    have c5b0 : (t122 == 12 && (t123 == 4)) = true := c5
    (try (have c5b1 : decide (t122 = 12 && (t123 == 4)) = true := by simpa using c5))
    (try (have c5b2 : (t122 == 12 && (t123 == 4)) = true := by simpa using c5))
    clear c5
    by_cases c6 : t127 = 0
    · rw [if_pos c6] at H
      have c6b0 : (t127 == 0) = true := beq_iff_eq.mpr c6
      have c6b1 : (t127 != 0) = false := bne_eq_false_iff_eq.mpr c6
      clear c6
      by_cases c7 : (t132 == 28 && (t133 == 4)) = true
      · rw [if_pos c7] at H
        have c7b0 : (t132 == 28 && (t133 == 4)) = true := c7
        (try (have c7b1 : decide (t132 = 28 && (t133 == 4)) = true := by simpa using c7))
        (try (have c7b2 : (t132 == 28 && (t133 == 4)) = true := by simpa using c7))
        clear c7
        obtain ⟨y156, hy156⟩ : ∃ y_ : List Int, y_ = (([8, (-2)] : List Int)) := ⟨_, rfl⟩
        replace H : ((stickfulref20_Same.f k t134 y156).bind fun t159 => (if t159 = true then (if t137 = 0 then (if (t142 == 12 && (t143 == 20)) = true then ((stickfulref20_Same.f k t144 (([(-18), (-18)] : List Int))).bind fun t163 => (if t163 = true then (if t147 = 0 then ((stickfulref20_Same.f k t152 (([0, 16, 32] : List Int))).bind fun t167 => (if t167 = true then (some (t153 == 0)) else (some false))) else (some false)) else (some false))) else (some false)) else (some false)) else (some false))) = some r := by first | (rw [hy156]; with_reducible exact H) | (have H2_ := (Option.bind_some _ _).symm.trans H; rw [hy156]; with_reducible exact H2_) | (have H2_ := (Option.bind_some _ _).symm.trans H; with_reducible exact H2_) | with_reducible exact H | (rw [hy156]; exact H) | exact H
        have Ny156 := Aside0.mk hy156
        clear hy156
        replace H := Option.bind_eq_some_iff.mp H
        obtain ⟨t159, A80, H⟩ := H
        replace H : (if t159 = true then (if t137 = 0 then (if (t142 == 12 && (t143 == 20)) = true then ((stickfulref20_Same.f k t144 (([(-18), (-18)] : List Int))).bind fun t163 => (if t163 = true then (if t147 = 0 then ((stickfulref20_Same.f k t152 (([0, 16, 32] : List Int))).bind fun t167 => (if t167 = true then (some (t153 == 0)) else (some false))) else (some false)) else (some false))) else (some false)) else (some false)) else (some false)) = some r := H
        have A8 := Aside0.mk A80
        clear A80
        by_cases c9 : t159 = true
        · subst c9
          have H1 : (if t137 = 0 then (if (t142 == 12 && (t143 == 20)) = true then ((stickfulref20_Same.f k t144 (([(-18), (-18)] : List Int))).bind fun t163 => (if t163 = true then (if t147 = 0 then ((stickfulref20_Same.f k t152 (([0, 16, 32] : List Int))).bind fun t167 => (if t167 = true then (some (t153 == 0)) else (some false))) else (some false)) else (some false))) else (some false)) else (some false)) = some r := by rw [if_pos rfl] at H; exact H
          clear H
          have H := H1
          clear H1
          by_cases c10 : t137 = 0
          · rw [if_pos c10] at H
            have c10b0 : (t137 == 0) = true := beq_iff_eq.mpr c10
            have c10b1 : (t137 != 0) = false := bne_eq_false_iff_eq.mpr c10
            clear c10
            by_cases c11 : (t142 == 12 && (t143 == 20)) = true
            · rw [if_pos c11] at H
              have c11b0 : (t142 == 12 && (t143 == 20)) = true := c11
              (try (have c11b1 : decide (t142 = 12 && (t143 == 20)) = true := by simpa using c11))
              (try (have c11b2 : (t142 == 12 && (t143 == 20)) = true := by simpa using c11))
              clear c11
              obtain ⟨y160, hy160⟩ : ∃ y_ : List Int, y_ = (([(-18), (-18)] : List Int)) := ⟨_, rfl⟩
              replace H : ((stickfulref20_Same.f k t144 y160).bind fun t163 => (if t163 = true then (if t147 = 0 then ((stickfulref20_Same.f k t152 (([0, 16, 32] : List Int))).bind fun t167 => (if t167 = true then (some (t153 == 0)) else (some false))) else (some false)) else (some false))) = some r := by first | (rw [hy160]; with_reducible exact H) | (have H2_ := (Option.bind_some _ _).symm.trans H; rw [hy160]; with_reducible exact H2_) | (have H2_ := (Option.bind_some _ _).symm.trans H; with_reducible exact H2_) | with_reducible exact H | (rw [hy160]; exact H) | exact H
              have Ny160 := Aside0.mk hy160
              clear hy160
              replace H := Option.bind_eq_some_iff.mp H
              obtain ⟨t163, A120, H⟩ := H
              replace H : (if t163 = true then (if t147 = 0 then ((stickfulref20_Same.f k t152 (([0, 16, 32] : List Int))).bind fun t167 => (if t167 = true then (some (t153 == 0)) else (some false))) else (some false)) else (some false)) = some r := H
              have A12 := Aside0.mk A120
              clear A120
              by_cases c13 : t163 = true
              · subst c13
                have H1 : (if t147 = 0 then ((stickfulref20_Same.f k t152 (([0, 16, 32] : List Int))).bind fun t167 => (if t167 = true then (some (t153 == 0)) else (some false))) else (some false)) = some r := by rw [if_pos rfl] at H; exact H
                clear H
                have H := H1
                clear H1
                by_cases c14 : t147 = 0
                · rw [if_pos c14] at H
                  have c14b0 : (t147 == 0) = true := beq_iff_eq.mpr c14
                  have c14b1 : (t147 != 0) = false := bne_eq_false_iff_eq.mpr c14
                  clear c14
                  obtain ⟨y164, hy164⟩ : ∃ y_ : List Int, y_ = (([0, 16, 32] : List Int)) := ⟨_, rfl⟩
                  replace H : ((stickfulref20_Same.f k t152 y164).bind fun t167 => (if t167 = true then (some (t153 == 0)) else (some false))) = some r := by first | (rw [hy164]; with_reducible exact H) | (have H2_ := (Option.bind_some _ _).symm.trans H; rw [hy164]; with_reducible exact H2_) | (have H2_ := (Option.bind_some _ _).symm.trans H; with_reducible exact H2_) | with_reducible exact H | (rw [hy164]; exact H) | exact H
                  have Ny164 := Aside0.mk hy164
                  clear hy164
                  replace H := Option.bind_eq_some_iff.mp H
                  obtain ⟨t167, A150, H⟩ := H
                  replace H : (if t167 = true then (some (t153 == 0)) else (some false)) = some r := H
                  have A15 := Aside0.mk A150
                  clear A150
                  by_cases c16 : t167 = true
                  · subst c16
                    have H1 : (some (t153 == 0)) = some r := by rw [if_pos rfl] at H; exact H
                    clear H
                    have H := H1
                    clear H1
                    obtain rfl := Option.some.inj H
                    go_enter Try.func9, Try.ntmps9
                    go_wp2_with (first | ((with_reducible refine gate_dst (N := 1) rfl ?_); (try (refine gate_guard (by rfl) ?_; dsimp only)); refine box_event ?hg (N := 1) ?hd (cs := #[.int .i64 0, .int .i64 0]) (t := 23) ?hr ?_; (case hd => rfl); (case hg => rfl); (case hr => first | (go_simp; done) | (go_simp; rfl)); intro gb121 hg w17 hbox hb; have BK121 := Aside0.mk (hbox); have GW121 := bge HB hg; have GE121 := bge HB hg; replace HB := bh HB hb; clear hb hbox hg; obtain ⟨hcz18_0, hcz18_1⟩ := cz2 BK121; obtain ⟨hfz18_0, hfz18_1⟩ := fz2 BK121) | ((with_reducible refine gate_callee (f := 10) rfl ?_); refine goesB (some 16) rfl rfl Try.func10 #[.agg #[.int .i64 12, .int .i64 4], .slice none 0 0] rfl ?_; (refine (span_Line.calls 12 4 _ _ ([] : List (S35)) t122 t123 t124 t127 _ ?side1 ?side2 A1.out).mono ?_); (case side1 => exact Kd.C_nil _ _); (case side2 => exact Nat.le_refl _); rintro e w19 ⟨v125, rfl, ho0, hb⟩; refine ⟨_, rfl, ?_⟩; have HO126 := Aside0.mk (Kd.R_lower ho0 (below_size (bw HB))); replace BK121 := Aside0.mk (blk_below (o := .cells #[.int .i64 12, .int .i64 4] 23 (0, 0)) (bp BK121) hb); replace HB := bh HB hb; (try clear hb); (try clear hb2); (try clear hk); (try clear hi); (try clear ho0); (try clear A1)) | ((with_reducible refine gate_dst (N := 2) rfl ?_); (try (refine gate_guard (by rfl) ?_; dsimp only)); refine box_event ?hg (N := 2) ?hd (cs := #[.int .i64 0, .int .i64 0]) (t := 23) ?hr ?_; (case hd => rfl); (case hg => rfl); (case hr => first | (go_simp; done) | (go_simp; rfl)); intro gb128 hg w20 hbox hb; replace HO126 := Aside0.mk (Kd.R_below (rx HO126) hb); have BK128 := Aside0.mk (hbox); have GW128 := bge HB hg; have GE128 := bge HB hg; replace HB := bh HB hb; have NB121_128 := nbl BK121 hg; have NB128_121 := nbg BK121 hg; replace BK121 := bb BK121 hb; clear hb hbox hg; have hnb21 := NB128_121.out; have hnc21 := NB121_128.out; obtain ⟨hcz22_0, hcz22_1⟩ := cz2 BK128; obtain ⟨hfz22_0, hfz22_1⟩ := fz2 BK128; obtain ⟨hcz23_0, hcz23_1⟩ := cz2 BK121; obtain ⟨hfz23_0, hfz23_1⟩ := fz2 BK121) | ((with_reducible refine gate_dst (N := 26) rfl ?_); (try (refine gate_guard (by rfl) ?_; dsimp only)); refine Kd.R_lit k35 _ 35 ?hg (N := 26) ?hd (xs := ([(⟨(⟨20, 4⟩ : S23), 0, 1⟩ : S35), (⟨(⟨30, 2⟩ : S23), 0, 2⟩ : S35)] : List (S35))) (inner := [.int .i64 20, .int .i64 4, .int .i64 0, .int .u8 1, .int .i64 30, .int .i64 2, .int .i64 0, .int .u8 2]) (ok := fun _ => True) (okp := fun _ => True) ?hr ?hp (fun _ hk => hk) trivial (Below.refl _ _) (Nat.le_refl _) (by simp) ?_; (case hd => rfl); (case hg => rfl); (case hr => first | (go_simp; done) | (go_simp; rfl)); (case hp => exact (Reps.c4 (show Kd.M k35 _ _ _ (⟨(⟨20, 4⟩ : S23), 0, 1⟩ : S35) [.int .i64 20, .int .i64 4, .int .i64 0, .int .u8 1] from (k35_mkM _ _ _ (⟨(⟨20, 4⟩ : S23), 0, 1⟩ : S35) )) (Reps.c4 (show Kd.M k35 _ _ _ (⟨(⟨30, 2⟩ : S23), 0, 2⟩ : S35) [.int .i64 30, .int .i64 2, .int .i64 0, .int .u8 2] from (k35_mkM _ _ _ (⟨(⟨30, 2⟩ : S23), 0, 2⟩ : S35) )) (Reps.none _ _)))); intro v130 w24 ho25 hb hg_ hnew_; clear hg_ hnew_; (first | rw [← Ny129.out] at ho25 | (simp only [Int.reduceToNat] at ho25; rw [← Ny129.out] at ho25)); replace HO126 := Aside0.mk (Kd.R_below (by (with_reducible repeat (first | apply Kd.R_alloc | apply Kd.R_drewN | apply Kd.R_drew)); exact (Kd.R_mono (Kd.R_far (p := ⟨gb128, 1, none⟩) (Kd.R_far (p := ⟨gb128, 0, none⟩) (Kd.R_types HO126.out BK128.out (by decide)) (fun _ hk => hk.2) (.int .i64 t122)) (fun _ hk => hk.2) (.int .i64 t123)) (fun _ h_ => h_.1))) hb); have HO131 := Aside0.mk (Kd.R_lower ho25 (below_size (bw HB))); replace BK121 := bb BK121 hb; replace BK128 := Aside0.mk (blk_below (o := .cells #[.int .i64 t122, .int .i64 t123] 23 (0, 0)) (bp BK128) hb); replace HB := bh HB hb; clear hb ho25; obtain ⟨Ao26, co26, eo26⟩ := Kd.R_slice HO131.out; subst eo26) | ((with_reducible refine gate_callee (f := 10) rfl ?_); refine goesB (some 27) rfl rfl Try.func10 #[.agg #[.int .i64 12, .int .i64 4], .slice Ao26 y129.length co26] rfl ?_; (with_reducible refine (span_Line.calls 12 4 _ _ y129 t132 t133 t134 t137 _ ?side1 ?side2 A2.out).mono ?_); (case side1 => repeat (first | exact (Kd.R_reads' HO131.out).2.2 | (with_reducible refine Kd.C_alloc ?_ _) | (with_reducible refine Kd.C_drewN ?_ _) | (with_reducible refine Kd.C_drew ?_))); (case side2 => exact (Kd.R_reads' HO131.out).2.1); rintro e w27 ⟨v135, rfl, ho0, hb⟩; refine ⟨_, rfl, ?_⟩; replace HO131 := Aside0.mk (Kd.R_below (rx HO131) hb); have HO136 := Aside0.mk (Kd.R_lower (Kd.R_new' ho0 (Kd.R_lt (rx HO126))) (below_size (bw HB))); replace HO126 := Aside0.mk (Kd.R_elder' (rx HO126) (Kd.R_base ho0) hb); replace BK121 := bb BK121 hb; replace BK128 := bb BK128 hb; replace HB := bh HB hb; (try clear hb); (try clear hb2); (try clear hk); (try clear hi); (try clear ho0)) | ((with_reducible refine gate_dst (N := 5) rfl ?_); (try (refine gate_guard (by rfl) ?_; dsimp only)); refine box_event ?hg (N := 5) ?hd (cs := #[.int .i64 0, .int .i64 0]) (t := 23) ?hr ?_; (case hd => rfl); (case hg => rfl); (case hr => first | (go_simp; done) | (go_simp; rfl)); intro gb138 hg w28 hbox hb; replace HO126 := Aside0.mk (Kd.R_below (rx HO126) hb); replace HO131 := Aside0.mk (Kd.R_below (rx HO131) hb); replace HO136 := Aside0.mk (Kd.R_below (rx HO136) hb); have BK138 := Aside0.mk (hbox); have GW138 := bge HB hg; have GE138 := bge HB hg; replace HB := bh HB hb; have NB121_138 := nbl BK121 hg; have NB138_121 := nbg BK121 hg; replace BK121 := bb BK121 hb; have NB128_138 := nbl BK128 hg; have NB138_128 := nbg BK128 hg; replace BK128 := bb BK128 hb; clear hb hbox hg; have hnb29 := NB138_121.out; have hnc29 := NB121_138.out; have hnb30 := NB138_128.out; have hnc30 := NB128_138.out; obtain ⟨hcz31_0, hcz31_1⟩ := cz2 BK138; obtain ⟨hfz31_0, hfz31_1⟩ := fz2 BK138; obtain ⟨hcz32_0, hcz32_1⟩ := cz2 BK121; obtain ⟨hfz32_0, hfz32_1⟩ := fz2 BK121) | ((with_reducible refine gate_dst (N := 37) rfl ?_); (try (refine gate_guard (by rfl) ?_; dsimp only)); refine Kd.R_lit k35 _ 35 ?hg (N := 37) ?hd (xs := ([(⟨(⟨30, 2⟩ : S23), 0, 1⟩ : S35), (⟨(⟨10, 2⟩ : S23), 0, 2⟩ : S35)] : List (S35))) (inner := [.int .i64 30, .int .i64 2, .int .i64 0, .int .u8 1, .int .i64 10, .int .i64 2, .int .i64 0, .int .u8 2]) (ok := fun _ => True) (okp := fun _ => True) ?hr ?hp (fun _ hk => hk) trivial (Below.refl _ _) (Nat.le_refl _) (by simp) ?_; (case hd => rfl); (case hg => rfl); (case hr => first | (go_simp; done) | (go_simp; rfl)); (case hp => exact (Reps.c4 (show Kd.M k35 _ _ _ (⟨(⟨30, 2⟩ : S23), 0, 1⟩ : S35) [.int .i64 30, .int .i64 2, .int .i64 0, .int .u8 1] from (k35_mkM _ _ _ (⟨(⟨30, 2⟩ : S23), 0, 1⟩ : S35) )) (Reps.c4 (show Kd.M k35 _ _ _ (⟨(⟨10, 2⟩ : S23), 0, 2⟩ : S35) [.int .i64 10, .int .i64 2, .int .i64 0, .int .u8 2] from (k35_mkM _ _ _ (⟨(⟨10, 2⟩ : S23), 0, 2⟩ : S35) )) (Reps.none _ _)))); intro v140 w33 ho34 hb hg_ hnew_; clear hg_ hnew_; (first | rw [← Ny139.out] at ho34 | (simp only [Int.reduceToNat] at ho34; rw [← Ny139.out] at ho34)); replace HO126 := Aside0.mk (Kd.R_below (by (with_reducible repeat (first | apply Kd.R_alloc | apply Kd.R_drewN | apply Kd.R_drew)); exact (Kd.R_mono (Kd.R_far (p := ⟨gb138, 1, none⟩) (Kd.R_far (p := ⟨gb138, 0, none⟩) (Kd.R_types HO126.out BK138.out (by decide)) (fun _ hk => hk.2) (.int .i64 t132)) (fun _ hk => hk.2) (.int .i64 t133)) (fun _ h_ => h_.1))) hb); replace HO136 := Aside0.mk (Kd.R_below (by (with_reducible repeat (first | apply Kd.R_alloc | apply Kd.R_drewN | apply Kd.R_drew)); exact (Kd.R_mono (Kd.R_far (p := ⟨gb138, 1, none⟩) (Kd.R_far (p := ⟨gb138, 0, none⟩) (Kd.R_types HO136.out BK138.out (by decide)) (fun _ hk => hk.2) (.int .i64 t132)) (fun _ hk => hk.2) (.int .i64 t133)) (fun _ h_ => h_.1))) hb); have HO141 := Aside0.mk (Kd.R_lower (Kd.R_new' ho34 (Kd.R_lt (by (with_reducible repeat (first | apply Kd.R_alloc | apply Kd.R_drewN | apply Kd.R_drew)); exact (Kd.R_mono (Kd.R_far (p := ⟨gb138, 1, none⟩) (Kd.R_far (p := ⟨gb138, 0, none⟩) (Kd.R_types HO131.out BK138.out (by decide)) (fun _ hk => hk.2) (.int .i64 t132)) (fun _ hk => hk.2) (.int .i64 t133)) (fun _ h_ => h_.1))))) (below_size (bw HB))); replace HO131 := Aside0.mk (Kd.R_elder' (by (with_reducible repeat (first | apply Kd.R_alloc | apply Kd.R_drewN | apply Kd.R_drew)); exact (Kd.R_mono (Kd.R_far (p := ⟨gb138, 1, none⟩) (Kd.R_far (p := ⟨gb138, 0, none⟩) (Kd.R_types HO131.out BK138.out (by decide)) (fun _ hk => hk.2) (.int .i64 t132)) (fun _ hk => hk.2) (.int .i64 t133)) (fun _ h_ => h_.1))) (Kd.R_base ho34) hb); replace BK121 := bb BK121 hb; replace BK128 := bb BK128 hb; replace BK138 := Aside0.mk (blk_below (o := .cells #[.int .i64 t132, .int .i64 t133] 23 (0, 0)) (bp BK138) hb); replace HB := bh HB hb; clear hb ho34; obtain ⟨Ao35, co35, eo35⟩ := Kd.R_slice HO141.out; subst eo35) | ((with_reducible refine gate_callee (f := 10) rfl ?_); refine goesB (some 38) rfl rfl Try.func10 #[.agg #[.int .i64 12, .int .i64 4], .slice Ao35 y139.length co35] rfl ?_; (with_reducible refine (span_Line.calls 12 4 _ _ y139 t142 t143 t144 t147 _ ?side1 ?side2 A3.out).mono ?_); (case side1 => repeat (first | exact (Kd.R_reads' HO141.out).2.2 | (with_reducible refine Kd.C_alloc ?_ _) | (with_reducible refine Kd.C_drewN ?_ _) | (with_reducible refine Kd.C_drew ?_))); (case side2 => exact (Kd.R_reads' HO141.out).2.1); rintro e w36 ⟨v145, rfl, ho0, hb⟩; refine ⟨_, rfl, ?_⟩; replace HO131 := Aside0.mk (Kd.R_below (rx HO131) hb); replace HO141 := Aside0.mk (Kd.R_below (rx HO141) hb); have HO146 := Aside0.mk (Kd.R_lower (Kd.R_new' (Kd.R_new' ho0 (Kd.R_lt (rx HO126))) (Kd.R_lt (rx HO136))) (below_size (bw HB))); replace HO126 := Aside0.mk (Kd.R_elder' (rx HO126) (Kd.R_base ho0) hb); replace HO136 := Aside0.mk (Kd.R_elder' (rx HO136) (Kd.R_base ho0) hb); replace BK121 := bb BK121 hb; replace BK128 := bb BK128 hb; replace BK138 := bb BK138 hb; replace HB := bh HB hb; (try clear hb); (try clear hb2); (try clear hk); (try clear hi); (try clear ho0)) | ((with_reducible refine gate_dst (N := 8) rfl ?_); (try (refine gate_guard (by rfl) ?_; dsimp only)); refine box_event ?hg (N := 8) ?hd (cs := #[.int .i64 0, .int .i64 0]) (t := 23) ?hr ?_; (case hd => rfl); (case hg => rfl); (case hr => first | (go_simp; done) | (go_simp; rfl)); intro gb148 hg w37 hbox hb; replace HO126 := Aside0.mk (Kd.R_below (rx HO126) hb); replace HO131 := Aside0.mk (Kd.R_below (rx HO131) hb); replace HO136 := Aside0.mk (Kd.R_below (rx HO136) hb); replace HO141 := Aside0.mk (Kd.R_below (rx HO141) hb); replace HO146 := Aside0.mk (Kd.R_below (rx HO146) hb); have BK148 := Aside0.mk (hbox); have GW148 := bge HB hg; have GE148 := bge HB hg; replace HB := bh HB hb; have NB121_148 := nbl BK121 hg; have NB148_121 := nbg BK121 hg; replace BK121 := bb BK121 hb; have NB128_148 := nbl BK128 hg; have NB148_128 := nbg BK128 hg; replace BK128 := bb BK128 hb; have NB138_148 := nbl BK138 hg; have NB148_138 := nbg BK138 hg; replace BK138 := bb BK138 hb; clear hb hbox hg; have hnb38 := NB148_121.out; have hnc38 := NB121_148.out; have hnb39 := NB148_128.out; have hnc39 := NB128_148.out; have hnb40 := NB148_138.out; have hnc40 := NB138_148.out; obtain ⟨hcz41_0, hcz41_1⟩ := cz2 BK148; obtain ⟨hfz41_0, hfz41_1⟩ := fz2 BK148; obtain ⟨hcz42_0, hcz42_1⟩ := cz2 BK121; obtain ⟨hfz42_0, hfz42_1⟩ := fz2 BK121) | ((with_reducible refine gate_dst (N := 45) rfl ?_); (try (refine gate_guard (by rfl) ?_; dsimp only)); refine Kd.R_lit k23 _ 23 ?hg (N := 45) ?hd (xs := ([(⟨12, 4⟩ : S23), (⟨12, 4⟩ : S23)] : List (S23))) (inner := [.int .i64 12, .int .i64 4, .int .i64 12, .int .i64 4]) (ok := fun _ => True) (okp := fun _ => True) ?hr ?hp (fun _ hk => hk) trivial (Below.refl _ _) (Nat.le_refl _) (by simp) ?_; (case hd => rfl); (case hg => rfl); (case hr => first | (go_simp; done) | (go_simp; rfl)); (case hp => exact (Reps.c2 (show Kd.M k23 _ _ _ (⟨12, 4⟩ : S23) [.int .i64 12, .int .i64 4] from (k23_mkM _ _ _ (⟨12, 4⟩ : S23) )) (Reps.c2 (show Kd.M k23 _ _ _ (⟨12, 4⟩ : S23) [.int .i64 12, .int .i64 4] from (k23_mkM _ _ _ (⟨12, 4⟩ : S23) )) (Reps.none _ _)))); intro v150 w43 ho44 hb hg_ hnew_; clear hg_ hnew_; (first | rw [← Ny149.out] at ho44 | (simp only [Int.reduceToNat] at ho44; rw [← Ny149.out] at ho44)); replace HO126 := Aside0.mk (Kd.R_below (by (with_reducible repeat (first | apply Kd.R_alloc | apply Kd.R_drewN | apply Kd.R_drew)); exact (Kd.R_mono (Kd.R_far (p := ⟨gb148, 1, none⟩) (Kd.R_far (p := ⟨gb148, 0, none⟩) (Kd.R_types HO126.out BK148.out (by decide)) (fun _ hk => hk.2) (.int .i64 t142)) (fun _ hk => hk.2) (.int .i64 t143)) (fun _ h_ => h_.1))) hb); replace HO131 := Aside0.mk (Kd.R_below (by (with_reducible repeat (first | apply Kd.R_alloc | apply Kd.R_drewN | apply Kd.R_drew)); exact (Kd.R_mono (Kd.R_far (p := ⟨gb148, 1, none⟩) (Kd.R_far (p := ⟨gb148, 0, none⟩) (Kd.R_types HO131.out BK148.out (by decide)) (fun _ hk => hk.2) (.int .i64 t142)) (fun _ hk => hk.2) (.int .i64 t143)) (fun _ h_ => h_.1))) hb); replace HO136 := Aside0.mk (Kd.R_below (by (with_reducible repeat (first | apply Kd.R_alloc | apply Kd.R_drewN | apply Kd.R_drew)); exact (Kd.R_mono (Kd.R_far (p := ⟨gb148, 1, none⟩) (Kd.R_far (p := ⟨gb148, 0, none⟩) (Kd.R_types HO136.out BK148.out (by decide)) (fun _ hk => hk.2) (.int .i64 t142)) (fun _ hk => hk.2) (.int .i64 t143)) (fun _ h_ => h_.1))) hb); replace HO141 := Aside0.mk (Kd.R_below (by (with_reducible repeat (first | apply Kd.R_alloc | apply Kd.R_drewN | apply Kd.R_drew)); exact (Kd.R_mono (Kd.R_far (p := ⟨gb148, 1, none⟩) (Kd.R_far (p := ⟨gb148, 0, none⟩) (Kd.R_types HO141.out BK148.out (by decide)) (fun _ hk => hk.2) (.int .i64 t142)) (fun _ hk => hk.2) (.int .i64 t143)) (fun _ h_ => h_.1))) hb); replace HO146 := Aside0.mk (Kd.R_below (by (with_reducible repeat (first | apply Kd.R_alloc | apply Kd.R_drewN | apply Kd.R_drew)); exact (Kd.R_mono (Kd.R_far (p := ⟨gb148, 1, none⟩) (Kd.R_far (p := ⟨gb148, 0, none⟩) (Kd.R_types HO146.out BK148.out (by decide)) (fun _ hk => hk.2) (.int .i64 t142)) (fun _ hk => hk.2) (.int .i64 t143)) (fun _ h_ => h_.1))) hb); have HO151 := Aside0.mk (Kd.R_lower (Kd.R_newB (Kd.R_newB (Kd.R_newB (Kd.R_newB ho44 (bx BK121)) (bx BK128)) (bx BK138)) (o := .cells #[.int .i64 t142, .int .i64 t143] 23 (0, 0)) (bp BK148)) (below_size (bw HB))); replace BK121 := bb BK121 hb; replace BK128 := bb BK128 hb; replace BK138 := bb BK138 hb; replace BK148 := Aside0.mk (blk_below (o := .cells #[.int .i64 t142, .int .i64 t143] 23 (0, 0)) (bp BK148) hb); replace HB := bh HB hb; clear hb ho44; obtain ⟨Ao45, co45, eo45⟩ := Kd.R_slice HO151.out; subst eo45) | ((with_reducible refine gate_callee (f := 14) rfl ?_); refine goesB (some 46) rfl rfl Try.func14 #[.slice Ao45 y149.length co45] rfl ?_; (with_reducible refine (span_Tops.calls k _ _ y149 t152 t153 _ ?side1 ?side2 A4.out).mono ?_); (case side1 => repeat (first | exact (Kd.R_reads' HO151.out).2.2 | (with_reducible refine Kd.C_alloc ?_ _) | (with_reducible refine Kd.C_drewN ?_ _) | (with_reducible refine Kd.C_drew ?_))); (case side2 => exact (Kd.R_reads' HO151.out).2.1); rintro e w46 ⟨v154, rfl, ho0, hb⟩; refine ⟨_, rfl, ?_⟩; replace HO131 := Aside0.mk (Kd.R_below (rx HO131) hb); replace HO141 := Aside0.mk (Kd.R_below (rx HO141) hb); replace HO151 := Aside0.mk (Kd.R_below (rx HO151) hb); have HO155 := Aside0.mk (Kd.R_lower (Kd.R_new' (Kd.R_new' (Kd.R_new' ho0 (Kd.R_lt (rx HO126))) (Kd.R_lt (rx HO136))) (Kd.R_lt (rx HO146))) (below_size (bw HB))); replace HO126 := Aside0.mk (Kd.R_elder' (rx HO126) (Kd.R_base ho0) hb); replace HO136 := Aside0.mk (Kd.R_elder' (rx HO136) (Kd.R_base ho0) hb); replace HO146 := Aside0.mk (Kd.R_elder' (rx HO146) (Kd.R_base ho0) hb); replace BK121 := bb BK121 hb; replace BK128 := bb BK128 hb; replace BK138 := bb BK138 hb; replace BK148 := bb BK148 hb; replace HB := bh HB hb; (try clear hb); (try clear hb2); (try clear hk); (try clear hi); (try clear ho0); obtain ⟨hcz47_0, hcz47_1⟩ := cz2 BK128; obtain ⟨hfz47_0, hfz47_1⟩ := fz2 BK128; obtain ⟨hcz48_0, hcz48_1⟩ := cz2 BK121; obtain ⟨hfz48_0, hfz48_1⟩ := fz2 BK121; obtain ⟨hcz49_0, hcz49_1⟩ := cz2 BK138; obtain ⟨hfz49_0, hfz49_1⟩ := fz2 BK138) | ((with_reducible refine gate_dst (N := 63) rfl ?_); (try (refine gate_guard (by rfl) ?_; dsimp only)); refine Kd.R_lit (Kd.int .i64) _ 2 ?hg (N := 63) ?hd (xs := ([8, (-2)] : List Int)) (inner := [.int .i64 8, .int .i64 (-2)]) (ok := fun _ => True) (okp := fun _ => True) ?hr ?hp (fun _ hk => hk) trivial (Below.refl _ _) (Nat.le_refl _) (by simp) ?_; (case hd => rfl); (case hg => rfl); (case hr => first | (go_simp; done) | (go_simp; rfl)); (case hp => exact (Reps.one (show Kd.M (Kd.int .i64) _ _ _ 8 [.int .i64 8] from rfl) (Reps.one (show Kd.M (Kd.int .i64) _ _ _ (-2) [.int .i64 (-2)] from rfl) (Reps.none _ _)))); intro v157 w50 ho51 hb hg_ hnew_; clear hg_ hnew_; (first | rw [← Ny156.out] at ho51 | (simp only [Int.reduceToNat] at ho51; rw [← Ny156.out] at ho51)); replace HO131 := Aside0.mk (Kd.R_below (rx HO131) hb); replace HO141 := Aside0.mk (Kd.R_below (rx HO141) hb); replace HO151 := Aside0.mk (Kd.R_below (rx HO151) hb); have HO158 := Aside0.mk (Kd.R_lower (Kd.R_new' (Kd.R_new' (Kd.R_new' (Kd.R_new' ho51 (Kd.R_lt (rx HO126))) (Kd.R_lt (rx HO136))) (Kd.R_lt (rx HO146))) (Kd.R_lt (rx HO155))) (below_size (bw HB))); replace HO126 := Aside0.mk (Kd.R_elder' (rx HO126) (Kd.R_base ho51) hb); replace HO136 := Aside0.mk (Kd.R_elder' (rx HO136) (Kd.R_base ho51) hb); replace HO146 := Aside0.mk (Kd.R_elder' (rx HO146) (Kd.R_base ho51) hb); replace HO155 := Aside0.mk (Kd.R_elder' (rx HO155) (Kd.R_base ho51) hb); replace BK121 := bb BK121 hb; replace BK128 := bb BK128 hb; replace BK138 := bb BK138 hb; replace BK148 := bb BK148 hb; replace HB := bh HB hb; clear hb ho51; obtain ⟨Ao52, co52, eo52⟩ := Kd.R_slice HO136.out; subst eo52; obtain ⟨Ao53, co53, eo53⟩ := Kd.R_slice HO158.out; subst eo53) | (go_at_call 12; (with_reducible refine (stickfulref20_Same.calls k _ _ t134 _ _ y156 true _ ?side1 ?side2 ?side3 ?side4 A8.out).mono ?_); (case side1 => repeat (first | exact (Kd.R_reads' HO136.out).2.2 | (with_reducible refine Kd.C_alloc ?_ _) | (with_reducible refine Kd.C_drewN ?_ _) | (with_reducible refine Kd.C_drew ?_))); (case side2 => exact (Kd.R_reads' HO136.out).2.1); (case side3 => repeat (first | exact (Kd.R_reads' HO158.out).2.2 | (with_reducible refine Kd.C_alloc ?_ _) | (with_reducible refine Kd.C_drewN ?_ _) | (with_reducible refine Kd.C_drew ?_))); (case side4 => exact (Kd.R_reads' HO158.out).2.1); rintro e w' ⟨rfl, ⟨nd, rfl⟩⟩; obtain ⟨hcz54_0, hcz54_1⟩ := cz2 BK148; obtain ⟨hfz54_0, hfz54_1⟩ := fz2 BK148) | ((with_reducible refine gate_dst (N := 77) rfl ?_); (try (refine gate_guard (by rfl) ?_; dsimp only)); refine Kd.R_lit (Kd.int .i64) _ 2 ?hg (N := 77) ?hd (xs := ([(-18), (-18)] : List Int)) (inner := [.int .i64 (-18), .int .i64 (-18)]) (ok := fun _ => True) (okp := fun _ => True) ?hr ?hp (fun _ hk => hk) trivial (Below.refl _ _) (Nat.le_refl _) (by simp) ?_; (case hd => rfl); (case hg => rfl); (case hr => first | (go_simp; done) | (go_simp; rfl)); (case hp => exact (Reps.one (show Kd.M (Kd.int .i64) _ _ _ (-18) [.int .i64 (-18)] from rfl) (Reps.one (show Kd.M (Kd.int .i64) _ _ _ (-18) [.int .i64 (-18)] from rfl) (Reps.none _ _)))); intro v161 w55 ho56 hb hg_ hnew_; clear hg_ hnew_; (first | rw [← Ny160.out] at ho56 | (simp only [Int.reduceToNat] at ho56; rw [← Ny160.out] at ho56)); replace HO131 := Aside0.mk (Kd.R_below (rx HO131) hb); replace HO141 := Aside0.mk (Kd.R_below (rx HO141) hb); replace HO151 := Aside0.mk (Kd.R_below (rx HO151) hb); have HO162 := Aside0.mk (Kd.R_lower (Kd.R_new' (Kd.R_new' (Kd.R_new' (Kd.R_new' (Kd.R_new' ho56 (Kd.R_lt (rx HO126))) (Kd.R_lt (rx HO136))) (Kd.R_lt (rx HO146))) (Kd.R_lt (rx HO155))) (Kd.R_lt (rx HO158))) (below_size (bw HB))); replace HO126 := Aside0.mk (Kd.R_elder' (rx HO126) (Kd.R_base ho56) hb); replace HO136 := Aside0.mk (Kd.R_elder' (rx HO136) (Kd.R_base ho56) hb); replace HO146 := Aside0.mk (Kd.R_elder' (rx HO146) (Kd.R_base ho56) hb); replace HO155 := Aside0.mk (Kd.R_elder' (rx HO155) (Kd.R_base ho56) hb); replace HO158 := Aside0.mk (Kd.R_elder' (rx HO158) (Kd.R_base ho56) hb); replace BK121 := bb BK121 hb; replace BK128 := bb BK128 hb; replace BK138 := bb BK138 hb; replace BK148 := bb BK148 hb; replace HB := bh HB hb; clear hb ho56; obtain ⟨Ao57, co57, eo57⟩ := Kd.R_slice HO146.out; subst eo57; obtain ⟨Ao58, co58, eo58⟩ := Kd.R_slice HO162.out; subst eo58) | (go_at_call 12; (with_reducible refine (stickfulref20_Same.calls k _ _ t144 _ _ y160 true _ ?side1 ?side2 ?side3 ?side4 A12.out).mono ?_); (case side1 => repeat (first | exact (Kd.R_reads' HO146.out).2.2 | (with_reducible refine Kd.C_alloc ?_ _) | (with_reducible refine Kd.C_drewN ?_ _) | (with_reducible refine Kd.C_drew ?_))); (case side2 => exact (Kd.R_reads' HO146.out).2.1); (case side3 => repeat (first | exact (Kd.R_reads' HO162.out).2.2 | (with_reducible refine Kd.C_alloc ?_ _) | (with_reducible refine Kd.C_drewN ?_ _) | (with_reducible refine Kd.C_drew ?_))); (case side4 => exact (Kd.R_reads' HO162.out).2.1); rintro e w' ⟨rfl, ⟨nd, rfl⟩⟩) | ((with_reducible refine gate_dst (N := 86) rfl ?_); (try (refine gate_guard (by rfl) ?_; dsimp only)); refine Kd.R_lit (Kd.int .i64) _ 2 ?hg (N := 86) ?hd (xs := ([0, 16, 32] : List Int)) (inner := [.int .i64 0, .int .i64 16, .int .i64 32]) (ok := fun _ => True) (okp := fun _ => True) ?hr ?hp (fun _ hk => hk) trivial (Below.refl _ _) (Nat.le_refl _) (by simp) ?_; (case hd => rfl); (case hg => rfl); (case hr => first | (go_simp; done) | (go_simp; rfl)); (case hp => exact (Reps.one (show Kd.M (Kd.int .i64) _ _ _ 0 [.int .i64 0] from rfl) (Reps.one (show Kd.M (Kd.int .i64) _ _ _ 16 [.int .i64 16] from rfl) (Reps.one (show Kd.M (Kd.int .i64) _ _ _ 32 [.int .i64 32] from rfl) (Reps.none _ _))))); intro v165 w59 ho60 hb hg_ hnew_; clear hg_ hnew_; (first | rw [← Ny164.out] at ho60 | (simp only [Int.reduceToNat] at ho60; rw [← Ny164.out] at ho60)); replace HO131 := Aside0.mk (Kd.R_below (rx HO131) hb); replace HO141 := Aside0.mk (Kd.R_below (rx HO141) hb); replace HO151 := Aside0.mk (Kd.R_below (rx HO151) hb); have HO166 := Aside0.mk (Kd.R_lower (Kd.R_new' (Kd.R_new' (Kd.R_new' (Kd.R_new' (Kd.R_new' (Kd.R_new' ho60 (Kd.R_lt (rx HO126))) (Kd.R_lt (rx HO136))) (Kd.R_lt (rx HO146))) (Kd.R_lt (rx HO155))) (Kd.R_lt (rx HO158))) (Kd.R_lt (rx HO162))) (below_size (bw HB))); replace HO126 := Aside0.mk (Kd.R_elder' (rx HO126) (Kd.R_base ho60) hb); replace HO136 := Aside0.mk (Kd.R_elder' (rx HO136) (Kd.R_base ho60) hb); replace HO146 := Aside0.mk (Kd.R_elder' (rx HO146) (Kd.R_base ho60) hb); replace HO155 := Aside0.mk (Kd.R_elder' (rx HO155) (Kd.R_base ho60) hb); replace HO158 := Aside0.mk (Kd.R_elder' (rx HO158) (Kd.R_base ho60) hb); replace HO162 := Aside0.mk (Kd.R_elder' (rx HO162) (Kd.R_base ho60) hb); replace BK121 := bb BK121 hb; replace BK128 := bb BK128 hb; replace BK138 := bb BK138 hb; replace BK148 := bb BK148 hb; replace HB := bh HB hb; clear hb ho60; obtain ⟨Ao61, co61, eo61⟩ := Kd.R_slice HO155.out; subst eo61; obtain ⟨Ao62, co62, eo62⟩ := Kd.R_slice HO166.out; subst eo62) | (go_at_call 12; (with_reducible refine (stickfulref20_Same.calls k _ _ t152 _ _ y164 true _ ?side1 ?side2 ?side3 ?side4 A15.out).mono ?_); (case side1 => repeat (first | exact (Kd.R_reads' HO155.out).2.2 | (with_reducible refine Kd.C_alloc ?_ _) | (with_reducible refine Kd.C_drewN ?_ _) | (with_reducible refine Kd.C_drew ?_))); (case side2 => exact (Kd.R_reads' HO155.out).2.1); (case side3 => repeat (first | exact (Kd.R_reads' HO166.out).2.2 | (with_reducible refine Kd.C_alloc ?_ _) | (with_reducible refine Kd.C_drewN ?_ _) | (with_reducible refine Kd.C_drew ?_))); (case side4 => exact (Kd.R_reads' HO166.out).2.1); rintro e w' ⟨rfl, ⟨nd, rfl⟩⟩))
                    go_ret
                    exact ⟨by first | rfl | (simp [errW_none, errW_some] <;> rfl) | (simp [*, errW_none, errW_some] <;> rfl), by repeat (first | (with_reducible first | exact HB.out | apply below_alloc | apply pw_below_drewN | apply below_drew1 | refine below_set ?_ GE121.out | refine below_set ?_ GE128.out | refine below_set ?_ GE138.out | refine below_set ?_ GE148.out) | exact HB.out)⟩
                  · replace c16 := Bool.eq_false_iff.mpr c16
                    subst c16
                    have H1 : (some false) = some r := by rw [if_neg (show ¬ (false = true) by decide)] at H; exact H
                    clear H
                    have H := H1
                    clear H1
                    exact absurd ((Option.some.inj H).trans HR_.out) (by decide)
                · rw [if_neg c14] at H
                  have c14b0 : (t147 == 0) = false := beq_eq_false_iff_ne.mpr c14
                  have c14b1 : (t147 != 0) = true := bne_iff_ne.mpr c14
                  exact absurd ((Option.some.inj H).trans HR_.out) (by decide)
              · replace c13 := Bool.eq_false_iff.mpr c13
                subst c13
                have H1 : (some false) = some r := by rw [if_neg (show ¬ (false = true) by decide)] at H; exact H
                clear H
                have H := H1
                clear H1
                exact absurd ((Option.some.inj H).trans HR_.out) (by decide)
            · rw [if_neg c11] at H
              have c11b0 : (t142 == 12 && (t143 == 20)) = false := by simpa using c11
              (try (have c11b1 : decide (t142 = 12 && (t143 == 20)) = false := by simpa using c11))
              (try (have c11b2 : (t142 == 12 && (t143 == 20)) = false := by simpa using c11))
              (try (have c11b3 : ¬ (t142 = 12 && (t143 == 20)) := by simpa using c11))
              clear c11
              exact absurd ((Option.some.inj H).trans HR_.out) (by decide)
          · rw [if_neg c10] at H
            have c10b0 : (t137 == 0) = false := beq_eq_false_iff_ne.mpr c10
            have c10b1 : (t137 != 0) = true := bne_iff_ne.mpr c10
            exact absurd ((Option.some.inj H).trans HR_.out) (by decide)
        · replace c9 := Bool.eq_false_iff.mpr c9
          subst c9
          have H1 : (some false) = some r := by rw [if_neg (show ¬ (false = true) by decide)] at H; exact H
          clear H
          have H := H1
          clear H1
          exact absurd ((Option.some.inj H).trans HR_.out) (by decide)
      · rw [if_neg c7] at H
        have c7b0 : (t132 == 28 && (t133 == 4)) = false := by simpa using c7
        (try (have c7b1 : decide (t132 = 28 && (t133 == 4)) = false := by simpa using c7))
        (try (have c7b2 : (t132 == 28 && (t133 == 4)) = false := by simpa using c7))
        (try (have c7b3 : ¬ (t132 = 28 && (t133 == 4)) := by simpa using c7))
        clear c7
        exact absurd ((Option.some.inj H).trans HR_.out) (by decide)
    · rw [if_neg c6] at H
      have c6b0 : (t127 == 0) = false := beq_eq_false_iff_ne.mpr c6
      have c6b1 : (t127 != 0) = true := bne_iff_ne.mpr c6
      exact absurd ((Option.some.inj H).trans HR_.out) (by decide)
  · rw [if_neg c5] at H
    have c5b0 : (t122 == 12 && (t123 == 4)) = false := by simpa using c5
    (try (have c5b1 : decide (t122 = 12 && (t123 == 4)) = false := by simpa using c5))
    (try (have c5b2 : (t122 == 12 && (t123 == 4)) = false := by simpa using c5))
    (try (have c5b3 : ¬ (t122 = 12 && (t123 == 4)) := by simpa using c5))
    clear c5
    exact absurd ((Option.some.inj H).trans HR_.out) (by decide)

theorem stickfullaw20_head.true_ (k : Nat) (r : Bool) (h : stickfullaw20_head.f k = some r) : r = true := by
 have h1 : stickfullaw20_head.f 100 = some true := by kernel_rfl
 have a := at_rounds stickfullaw20_head.mono (Nat.le_max_left k 100) h
 have b := at_rounds stickfullaw20_head.mono (Nat.le_max_right k 100) h1
 rw [a] at b
 exact Option.some.inj b
theorem stickfullaw20_head.calls (k : Nat)  (r : Bool) (w : World) (h : stickfullaw20_head.f k  = some r) :
    Calls Try.prog 9 #[] w fun e w' => e = .returned (.bool r) ∧ Below w.heap.size w w' := stickfullaw20_head.calls_t k r w h (stickfullaw20_head.true_ k r h)

/-! ### stickfulref20_may: function 26 -/
def stickfulref20_may.f (a0_0 a0_1 : Int) : Option (Bool) := if a0_0 ≥ (-1099511627776) then (if a0_0 ≤ 1099511627776 then (if a0_1 ≥ (-1099511627776) then (some (decide (a0_1 ≤ 1099511627776))) else (some false)) else (some false)) else (some false)
set_option maxHeartbeats 8000000 in
set_option maxRecDepth 100000 in
theorem stickfulref20_may.calls (a0_0 a0_1 : Int) (r : Bool) (w : World) (h : stickfulref20_may.f a0_0 a0_1 = some r) :
    Calls Try.prog 26 #[.agg #[.int .i64 a0_0, .int .i64 a0_1]] w fun e w' => e = .returned (.bool r) ∧ Below w.heap.size w w' := by
  have hu23 := Try.underlying23
  have HB := Aside0.mk (Below.refl w.heap.size w)
  have H : (if a0_0 ≥ (-1099511627776) then (if a0_0 ≤ 1099511627776 then (if a0_1 ≥ (-1099511627776) then (some (decide (a0_1 ≤ 1099511627776))) else (some false)) else (some false)) else (some false)) = some r := h
  clear h
  by_cases c2 : a0_0 ≥ (-1099511627776)
  · rw [if_pos c2] at H
    have c2b0 : decide ((-1099511627776) ≤ a0_0) = true := decide_eq_true c2
    clear c2
    by_cases c3 : a0_0 ≤ 1099511627776
    · rw [if_pos c3] at H
      have c3b0 : decide (a0_0 ≤ 1099511627776) = true := decide_eq_true c3
      clear c3
      by_cases c4 : a0_1 ≥ (-1099511627776)
      · rw [if_pos c4] at H
        have c4b0 : decide ((-1099511627776) ≤ a0_1) = true := decide_eq_true c4
        clear c4
        obtain rfl := Option.some.inj H
        go_enter Try.func26, Try.ntmps26
        go_wp2_with (first | ((with_reducible refine gate_dst (N := 1) rfl ?_); refine box_event ?hg (N := 1) ?hd (cs := #[.int .i64 a0_0, .int .i64 a0_1]) (t := 23) ?hr ?_; (case hd => rfl); (case hg => rfl); (case hr => first | (go_simp; done) | (go_simp; rfl)); intro gb168 hg w5 hbox hb; have BK168 := Aside0.mk (hbox); have GW168 := bge HB hg; have GE168 := bge HB hg; replace HB := bh HB hb; clear hb hbox hg; obtain ⟨hcz6_0, hcz6_1⟩ := cz2 BK168; obtain ⟨hfz6_0, hfz6_1⟩ := fz2 BK168))
        go_ret
        exact ⟨by first | rfl | (simp [errW_none, errW_some] <;> rfl) | (simp [*, errW_none, errW_some] <;> rfl), by repeat (first | (with_reducible first | exact HB.out | apply below_alloc | apply pw_below_drewN | apply below_drew1 | refine below_set ?_ GE168.out) | exact HB.out)⟩
      · rw [if_neg c4] at H
        have c4b0 : decide ((-1099511627776) ≤ a0_1) = false := decide_eq_false c4
        clear c4
        obtain rfl := Option.some.inj H
        go_enter Try.func26, Try.ntmps26
        go_wp2_with (first | ((with_reducible refine gate_dst (N := 1) rfl ?_); refine box_event ?hg (N := 1) ?hd (cs := #[.int .i64 a0_0, .int .i64 a0_1]) (t := 23) ?hr ?_; (case hd => rfl); (case hg => rfl); (case hr => first | (go_simp; done) | (go_simp; rfl)); intro gb168 hg w7 hbox hb; have BK168 := Aside0.mk (hbox); have GW168 := bge HB hg; have GE168 := bge HB hg; replace HB := bh HB hb; clear hb hbox hg; obtain ⟨hcz8_0, hcz8_1⟩ := cz2 BK168; obtain ⟨hfz8_0, hfz8_1⟩ := fz2 BK168))
        go_ret
        exact ⟨by first | rfl | (simp [errW_none, errW_some] <;> rfl) | (simp [*, errW_none, errW_some] <;> rfl), by repeat (first | (with_reducible first | exact HB.out | apply below_alloc | apply pw_below_drewN | apply below_drew1 | refine below_set ?_ GE168.out) | exact HB.out)⟩
    · rw [if_neg c3] at H
      have c3b0 : decide (a0_0 ≤ 1099511627776) = false := decide_eq_false c3
      clear c3
      obtain rfl := Option.some.inj H
      go_enter Try.func26, Try.ntmps26
      go_wp2_with (first | ((with_reducible refine gate_dst (N := 1) rfl ?_); refine box_event ?hg (N := 1) ?hd (cs := #[.int .i64 a0_0, .int .i64 a0_1]) (t := 23) ?hr ?_; (case hd => rfl); (case hg => rfl); (case hr => first | (go_simp; done) | (go_simp; rfl)); intro gb168 hg w9 hbox hb; have BK168 := Aside0.mk (hbox); have GW168 := bge HB hg; have GE168 := bge HB hg; replace HB := bh HB hb; clear hb hbox hg; obtain ⟨hcz10_0, hcz10_1⟩ := cz2 BK168; obtain ⟨hfz10_0, hfz10_1⟩ := fz2 BK168))
      go_ret
      exact ⟨by first | rfl | (simp [errW_none, errW_some] <;> rfl) | (simp [*, errW_none, errW_some] <;> rfl), by repeat (first | (with_reducible first | exact HB.out | apply below_alloc | apply pw_below_drewN | apply below_drew1 | refine below_set ?_ GE168.out) | exact HB.out)⟩
  · rw [if_neg c2] at H
    have c2b0 : decide ((-1099511627776) ≤ a0_0) = false := decide_eq_false c2
    clear c2
    obtain rfl := Option.some.inj H
    go_enter Try.func26, Try.ntmps26
    go_wp2_with (first | ((with_reducible refine gate_dst (N := 1) rfl ?_); refine box_event ?hg (N := 1) ?hd (cs := #[.int .i64 a0_0, .int .i64 a0_1]) (t := 23) ?hr ?_; (case hd => rfl); (case hg => rfl); (case hr => first | (go_simp; done) | (go_simp; rfl)); intro gb168 hg w11 hbox hb; have BK168 := Aside0.mk (hbox); have GW168 := bge HB hg; have GE168 := bge HB hg; replace HB := bh HB hb; clear hb hbox hg; obtain ⟨hcz12_0, hcz12_1⟩ := cz2 BK168; obtain ⟨hfz12_0, hfz12_1⟩ := fz2 BK168))
    go_ret
    exact ⟨by first | rfl | (simp [errW_none, errW_some] <;> rfl) | (simp [*, errW_none, errW_some] <;> rfl), by repeat (first | (with_reducible first | exact HB.out | apply below_alloc | apply pw_below_drewN | apply below_drew1 | refine below_set ?_ GE168.out) | exact HB.out)⟩

/-! ### stickfulref20_edge: function 27 -/
def stickfulref20_edge.f (a0_0 a0_1 a0_2 a0_3 : Int) : Option (Bool) := if a0_3 = 1 then (some true) else (some (a0_3 == 2))
set_option maxHeartbeats 8000000 in
set_option maxRecDepth 100000 in
theorem stickfulref20_edge.calls (a0_0 a0_1 a0_2 a0_3 : Int) (r : Bool) (w : World) (h : stickfulref20_edge.f a0_0 a0_1 a0_2 a0_3 = some r) :
    Calls Try.prog 27 #[.agg #[.int .i64 a0_0, .int .i64 a0_1, .int .i64 a0_2, .int .u8 a0_3]] w fun e w' => e = .returned (.bool r) ∧ Below w.heap.size w w' := by
  have hu35 := Try.underlying35
  have HB := Aside0.mk (Below.refl w.heap.size w)
  have H : (if a0_3 = 1 then (some true) else (some (a0_3 == 2))) = some r := h
  clear h
  by_cases c2 : a0_3 = 1
  · rw [if_pos c2] at H
    have c2b0 : (a0_3 == 1) = true := beq_iff_eq.mpr c2
    have c2b1 : (a0_3 != 1) = false := bne_eq_false_iff_eq.mpr c2
    clear c2
    obtain rfl := Option.some.inj H
    go_enter Try.func27, Try.ntmps27
    go_wp2_with (first | ((with_reducible refine gate_dst (N := 1) rfl ?_); refine box_event ?hg (N := 1) ?hd (cs := #[.int .i64 a0_0, .int .i64 a0_1, .int .i64 a0_2, .int .u8 a0_3]) (t := 35) ?hr ?_; (case hd => rfl); (case hg => rfl); (case hr => first | (go_simp; done) | (go_simp; rfl)); intro gb169 hg w3 hbox hb; have BK169 := Aside0.mk (hbox); have GW169 := bge HB hg; have GE169 := bge HB hg; replace HB := bh HB hb; clear hb hbox hg; obtain ⟨hcz4_0, hcz4_1, hcz4_2, hcz4_3⟩ := cz4 BK169; obtain ⟨hfz4_0, hfz4_1, hfz4_2, hfz4_3⟩ := fz4 BK169))
    go_ret
    exact ⟨by first | rfl | (simp [errW_none, errW_some] <;> rfl) | (simp [*, errW_none, errW_some] <;> rfl), by repeat (first | (with_reducible first | exact HB.out | apply below_alloc | apply pw_below_drewN | apply below_drew1 | refine below_set ?_ GE169.out) | exact HB.out)⟩
  · rw [if_neg c2] at H
    have c2b0 : (a0_3 == 1) = false := beq_eq_false_iff_ne.mpr c2
    have c2b1 : (a0_3 != 1) = true := bne_iff_ne.mpr c2
    obtain rfl := Option.some.inj H
    go_enter Try.func27, Try.ntmps27
    go_wp2_with (first | ((with_reducible refine gate_dst (N := 1) rfl ?_); refine box_event ?hg (N := 1) ?hd (cs := #[.int .i64 a0_0, .int .i64 a0_1, .int .i64 a0_2, .int .u8 a0_3]) (t := 35) ?hr ?_; (case hd => rfl); (case hg => rfl); (case hr => first | (go_simp; done) | (go_simp; rfl)); intro gb169 hg w5 hbox hb; have BK169 := Aside0.mk (hbox); have GW169 := bge HB hg; have GE169 := bge HB hg; replace HB := bh HB hb; clear hb hbox hg; obtain ⟨hcz6_0, hcz6_1, hcz6_2, hcz6_3⟩ := cz4 BK169; obtain ⟨hfz6_0, hfz6_1, hfz6_2, hfz6_3⟩ := fz4 BK169))
    go_ret
    exact ⟨by first | rfl | (simp [errW_none, errW_some] <;> rfl) | (simp [*, errW_none, errW_some] <;> rfl), by repeat (first | (with_reducible first | exact HB.out | apply below_alloc | apply pw_below_drewN | apply below_drew1 | refine below_set ?_ GE169.out) | exact HB.out)⟩

/-! ### stickfulref20_high: function 29 -/
def stickfulref20_high.f (a0_0 a0_1 : Int) : Option (Int) := some (wrap64 (a0_0 + a0_1))
set_option maxHeartbeats 8000000 in
set_option maxRecDepth 100000 in
theorem stickfulref20_high.calls (a0_0 a0_1 r : Int) (w : World) (h : stickfulref20_high.f a0_0 a0_1 = some r) :
    Calls Try.prog 29 #[.agg #[.int .i64 a0_0, .int .i64 a0_1]] w fun e w' => e = .returned (.int .i64 r) ∧ Below w.heap.size w w' := by
  have hu23 := Try.underlying23
  have HB := Aside0.mk (Below.refl w.heap.size w)
  have H : (some (wrap64 (a0_0 + a0_1))) = some r := h
  clear h
  obtain rfl := Option.some.inj H
  go_enter Try.func29, Try.ntmps29
  go_wp2_with (first | ((with_reducible refine gate_dst (N := 1) rfl ?_); refine box_event ?hg (N := 1) ?hd (cs := #[.int .i64 a0_0, .int .i64 a0_1]) (t := 23) ?hr ?_; (case hd => rfl); (case hg => rfl); (case hr => first | (go_simp; done) | (go_simp; rfl)); intro gb170 hg w2 hbox hb; have BK170 := Aside0.mk (hbox); have GW170 := bge HB hg; have GE170 := bge HB hg; replace HB := bh HB hb; clear hb hbox hg; obtain ⟨hcz3_0, hcz3_1⟩ := cz2 BK170; obtain ⟨hfz3_0, hfz3_1⟩ := fz2 BK170))
  go_ret
  exact ⟨by first | rfl | (simp [errW_none, errW_some] <;> rfl) | (simp [*, errW_none, errW_some] <;> rfl), by repeat (first | (with_reducible first | exact HB.out | apply below_alloc | apply pw_below_drewN | apply below_drew1 | refine below_set ?_ GE170.out) | exact HB.out)⟩

end Go.Proofs.Ytfcdljnjhljjgaa.HSpan
