-- Written by this claim's own program over the kit's print.
import Derived.Test.YtkaiibipcnlaiaaHEllb
import Derived.Test.YtkaiibipcnlaiaaHEllx0
import Derived.Test.YtkaiibipcnlaiaaHEllx2
import Derived.Test.YtkaiibipcnlaiaaHEllx8
import Derived.Test.YtkaiibipcnlaiaaHEllx10
import Derived.Test.YtkaiibipcnlaiaaHEllx14
import Derived.Test.YtkaiibipcnlaiaaHEllx15
import Derived.Test.YtkaiibipcnlaiaaM2
import Derived.StillTailTactics
import Derived.Laws.Externs
import Derived.BigFrameIn
import Derived.Lib.Hide
import Derived.Sort.LoopGhostIn
import Derived.BigQuiet
import Derived.Test.YtkaiibipcnlaiaaHEllb
namespace Go.Proofs.Ytkaiibipcnlaiaa.HEll
open Go.RowKit Go.Proofs.YtkaiibipcnlaiaaW.PrintWords Go.Proofs.YtkaiibipcnlaiaaW.PrintLast Go.Proofs.YtkaiibipcnlaiaaW.PrintMore Go.Proofs.Ytkaiibipcnlaiaa.Hand
attribute [local go_sem] max2_int min2_int max_two min_two max_three min_three max_four min_four   -- for this text's walks alone
set_option linter.unusedVariables false
set_option linter.unusedSimpArgs false

/-- Which operations have been taken: the bits of a number. -/
def stickfullaw26_EllipsisPlain.bits : Nat → Nat → List Bool
 | 0, _ => []
 | n + 1, m => Nat.beq (m % 2) 1 :: stickfullaw26_EllipsisPlain.bits n (m / 2)
def stickfullaw26_EllipsisPlain.bm (n m : Nat) : Array Bool := (stickfullaw26_EllipsisPlain.bits n m).toArray
/-! ### stickfullaw26_EllipsisPlain: function 6 -/
mutual
def stickfullaw26_EllipsisPlain.l0 : Nat → List (S53) → List Bool → Int → Int → Int → Option (Bool)
 | 0, _, _, _, _, _ => none
 | k + 1, x0, x5, x6, x356000, x356001 => if x6 < (x0.length : Int) then (if 0 ≤ x6 then (if x6 < (x5.length : Int) then (stickfullaw26_EllipsisPlain.l0 k x0 (x5.set (x6 : Int).toNat true) (wrap64 (x6 + 1)) x356000 x356001) else (none)) else (none)) else ((ellipsis_Cut.f x0 x5 0 (x0.length : Int) false x356000 x356001 0).bind fun bt361 => ((trim_Roles.f x0).bind fun t365 => ((tabs_Pens.f x0 t365 x356001).bind fun bt368 => (if bt361.2.2.2 = 0 then (if bt368.2 = 0 then (if (bt368.1.length : Int) = (wrap64 ((x0.length : Int) + 1)) then (if bt361.1 < 0 then (stickfullaw26_EllipsisPlain.j1 k x0 bt361.1 bt361.2.1 bt361.2.2.1 bt361.2.2.2 bt368.1 true x356000 x356001) else (stickfullaw26_EllipsisPlain.j1 k x0 bt361.1 bt361.2.1 bt361.2.2.1 bt361.2.2.2 bt368.1 (decide (bt361.1 > (x0.length : Int))) x356000 x356001)) else (stickfullaw26_EllipsisPlain.j1 k x0 bt361.1 bt361.2.1 bt361.2.2.1 bt361.2.2.2 bt368.1 true x356000 x356001)) else (stickfullaw26_EllipsisPlain.j1 k x0 bt361.1 bt361.2.1 bt361.2.2.1 bt361.2.2.2 bt368.1 true x356000 x356001)) else (stickfullaw26_EllipsisPlain.j1 k x0 bt361.1 bt361.2.1 bt361.2.2.1 bt361.2.2.2 bt368.1 true x356000 x356001)))))
def stickfullaw26_EllipsisPlain.j1 : Nat → List (S53) → Int → Int → Bool → Int → List Int → Bool → Int → Int → Option (Bool)
 | 0, _, _, _, _, _, _, _, _, _ => none
 | k + 1, x0, x7, x8, x9, x10, x11, x74, x356000, x356001 => if x74 = true then (if x10 = 0 then (some false) else ((stickfullaw26_head.f k).bind fun t372 => (some t372))) else (if 0 ≤ x7 then (if x7 < (x11.length : Int) then (if x8 = (rd x11 x7) then (stickfullaw26_EllipsisPlain.l1 k x0 x7 x8 x9 x11 (wrap64 (x7 + 1)) x356000 x356001) else (some false)) else (none)) else (none))
def stickfullaw26_EllipsisPlain.l1 : Nat → List (S53) → Int → Int → Bool → List Int → Int → Int → Int → Option (Bool)
 | 0, _, _, _, _, _, _, _, _ => none
 | k + 1, x0, x7, x8, x9, x11, x13, x356000, x356001 => if x13 ≤ (x0.length : Int) then (stickfullaw26_EllipsisPlain.j3 k x0 x7 x8 x9 x11 x13 x9 x356000 x356001) else (stickfullaw26_EllipsisPlain.j3 k x0 x7 x8 x9 x11 x13 false x356000 x356001)
def stickfullaw26_EllipsisPlain.j3 : Nat → List (S53) → Int → Int → Bool → List Int → Int → Bool → Int → Int → Option (Bool)
 | 0, _, _, _, _, _, _, _, _, _ => none
 | k + 1, x0, x7, x8, x9, x11, x13, x94, x356000, x356001 => if x94 = true then (if 0 ≤ x13 then (if x13 < (x11.length : Int) then (if (rd x11 x13) ≤ x356000 then (some false) else (stickfullaw26_EllipsisPlain.l1 k x0 x7 x8 x9 x11 (wrap64 (x13 + 1)) x356000 x356001)) else (none)) else (none)) else (if x9 = true then (if x8 ≤ x356000 then ((stickfullaw26_head.f k).bind fun t375 => (some t375)) else (if x7 = 0 then ((stickfullaw26_head.f k).bind fun t376 => (some t376)) else (some false))) else (if x7 = (x0.length : Int) then ((stickfullaw26_head.f k).bind fun t377 => (some t377)) else (some false)))
end
def stickfullaw26_EllipsisPlain.f (k : Nat) (l0 : List (S53)) (a1_0 a1_1 : Int) : Option (Bool) := if (l0.length : Int) > 100 then ((stickfullaw26_head.f k).bind fun t356 => (some t356)) else (if 0 ≤ (l0.length : Int) then (if ((l0.length : Int) : Int).toNat ≤ 281474976710656 then (stickfullaw26_EllipsisPlain.l0 k l0 (List.replicate ((l0.length : Int) : Int).toNat false) 0 a1_0 a1_1) else (none)) else (none))
theorem stickfullaw26_EllipsisPlain.mono_l : ∀ k, (∀ y0 y1 y2 y3 y4, LeO (stickfullaw26_EllipsisPlain.l0 k y0 y1 y2 y3 y4) (stickfullaw26_EllipsisPlain.l0 (k + 1) y0 y1 y2 y3 y4)) ∧ (∀ y0 y1 y2 y3 y4 y5 y6 y7 y8, LeO (stickfullaw26_EllipsisPlain.j1 k y0 y1 y2 y3 y4 y5 y6 y7 y8) (stickfullaw26_EllipsisPlain.j1 (k + 1) y0 y1 y2 y3 y4 y5 y6 y7 y8)) ∧ (∀ y0 y1 y2 y3 y4 y5 y6 y7, LeO (stickfullaw26_EllipsisPlain.l1 k y0 y1 y2 y3 y4 y5 y6 y7) (stickfullaw26_EllipsisPlain.l1 (k + 1) y0 y1 y2 y3 y4 y5 y6 y7)) ∧ (∀ y0 y1 y2 y3 y4 y5 y6 y7 y8, LeO (stickfullaw26_EllipsisPlain.j3 k y0 y1 y2 y3 y4 y5 y6 y7 y8) (stickfullaw26_EllipsisPlain.j3 (k + 1) y0 y1 y2 y3 y4 y5 y6 y7 y8))
 | 0 => ⟨fun _ _ _ _ _ r h => by simp [stickfullaw26_EllipsisPlain.l0] at h, fun _ _ _ _ _ _ _ _ _ r h => by simp [stickfullaw26_EllipsisPlain.j1] at h, fun _ _ _ _ _ _ _ _ r h => by simp [stickfullaw26_EllipsisPlain.l1] at h, fun _ _ _ _ _ _ _ _ _ r h => by simp [stickfullaw26_EllipsisPlain.j3] at h⟩
 | k + 1 => by
  obtain ⟨ih0, ih1, ih2, ih3⟩ := stickfullaw26_EllipsisPlain.mono_l k
  refine ⟨?_, ?_, ?_, ?_⟩
  ·intro y0 y1 y2 y3 y4
   unfold stickfullaw26_EllipsisPlain.l0
   repeat' first
   | (with_reducible exact ih0 _ _ _ _ _)
   | (with_reducible exact ih1 _ _ _ _ _ _ _ _ _)
   | (with_reducible exact ih2 _ _ _ _ _ _ _ _)
   | (with_reducible exact ih3 _ _ _ _ _ _ _ _ _)
   | (with_reducible exact stickfullaw26_head.mono _)
   | (with_reducible exact LeO.refl _)
   | (with_reducible exact LeO.none _)
   | (with_reducible refine LeO.ite ?_ ?_)
   | (with_reducible refine LeO.bind ?_ (fun _ => ?_))
   | exact ih0 _ _ _ _ _
   | exact ih1 _ _ _ _ _ _ _ _ _
   | exact ih2 _ _ _ _ _ _ _ _
   | exact ih3 _ _ _ _ _ _ _ _ _
   | exact stickfullaw26_head.mono _
   | exact LeO.none _
   | refine LeO.ite ?_ ?_
   | refine LeO.bind ?_ (fun _ => ?_)
  ·intro y0 y1 y2 y3 y4 y5 y6 y7 y8
   unfold stickfullaw26_EllipsisPlain.j1
   repeat' first
   | (with_reducible exact ih0 _ _ _ _ _)
   | (with_reducible exact ih1 _ _ _ _ _ _ _ _ _)
   | (with_reducible exact ih2 _ _ _ _ _ _ _ _)
   | (with_reducible exact ih3 _ _ _ _ _ _ _ _ _)
   | (with_reducible exact stickfullaw26_head.mono _)
   | (with_reducible exact LeO.refl _)
   | (with_reducible exact LeO.none _)
   | (with_reducible refine LeO.ite ?_ ?_)
   | (with_reducible refine LeO.bind ?_ (fun _ => ?_))
   | exact ih0 _ _ _ _ _
   | exact ih1 _ _ _ _ _ _ _ _ _
   | exact ih2 _ _ _ _ _ _ _ _
   | exact ih3 _ _ _ _ _ _ _ _ _
   | exact stickfullaw26_head.mono _
   | exact LeO.none _
   | refine LeO.ite ?_ ?_
   | refine LeO.bind ?_ (fun _ => ?_)
  ·intro y0 y1 y2 y3 y4 y5 y6 y7
   unfold stickfullaw26_EllipsisPlain.l1
   repeat' first
   | (with_reducible exact ih0 _ _ _ _ _)
   | (with_reducible exact ih1 _ _ _ _ _ _ _ _ _)
   | (with_reducible exact ih2 _ _ _ _ _ _ _ _)
   | (with_reducible exact ih3 _ _ _ _ _ _ _ _ _)
   | (with_reducible exact stickfullaw26_head.mono _)
   | (with_reducible exact LeO.refl _)
   | (with_reducible exact LeO.none _)
   | (with_reducible refine LeO.ite ?_ ?_)
   | (with_reducible refine LeO.bind ?_ (fun _ => ?_))
   | exact ih0 _ _ _ _ _
   | exact ih1 _ _ _ _ _ _ _ _ _
   | exact ih2 _ _ _ _ _ _ _ _
   | exact ih3 _ _ _ _ _ _ _ _ _
   | exact stickfullaw26_head.mono _
   | exact LeO.none _
   | refine LeO.ite ?_ ?_
   | refine LeO.bind ?_ (fun _ => ?_)
  ·intro y0 y1 y2 y3 y4 y5 y6 y7 y8
   unfold stickfullaw26_EllipsisPlain.j3
   repeat' first
   | (with_reducible exact ih0 _ _ _ _ _)
   | (with_reducible exact ih1 _ _ _ _ _ _ _ _ _)
   | (with_reducible exact ih2 _ _ _ _ _ _ _ _)
   | (with_reducible exact ih3 _ _ _ _ _ _ _ _ _)
   | (with_reducible exact stickfullaw26_head.mono _)
   | (with_reducible exact LeO.refl _)
   | (with_reducible exact LeO.none _)
   | (with_reducible refine LeO.ite ?_ ?_)
   | (with_reducible refine LeO.bind ?_ (fun _ => ?_))
   | exact ih0 _ _ _ _ _
   | exact ih1 _ _ _ _ _ _ _ _ _
   | exact ih2 _ _ _ _ _ _ _ _
   | exact ih3 _ _ _ _ _ _ _ _ _
   | exact stickfullaw26_head.mono _
   | exact LeO.none _
   | refine LeO.ite ?_ ?_
   | refine LeO.bind ?_ (fun _ => ?_)
theorem stickfullaw26_EllipsisPlain.mono : ∀ a0 a1 a2 k, LeO (stickfullaw26_EllipsisPlain.f k a0 a1 a2) (stickfullaw26_EllipsisPlain.f (k + 1) a0 a1 a2) := by
 intro a0 a1 a2 k
 obtain ⟨ih0, ih1, ih2, ih3⟩ := stickfullaw26_EllipsisPlain.mono_l k
 unfold stickfullaw26_EllipsisPlain.f
 repeat' first
   | (with_reducible exact ih0 _ _ _ _ _)
   | (with_reducible exact ih1 _ _ _ _ _ _ _ _ _)
   | (with_reducible exact ih2 _ _ _ _ _ _ _ _)
   | (with_reducible exact ih3 _ _ _ _ _ _ _ _ _)
   | (with_reducible exact stickfullaw26_head.mono _)
   | (with_reducible exact LeO.refl _)
   | (with_reducible exact LeO.none _)
   | (with_reducible refine LeO.ite ?_ ?_)
   | (with_reducible refine LeO.bind ?_ (fun _ => ?_))
   | exact ih0 _ _ _ _ _
   | exact ih1 _ _ _ _ _ _ _ _ _
   | exact ih2 _ _ _ _ _ _ _ _
   | exact ih3 _ _ _ _ _ _ _ _ _
   | exact stickfullaw26_head.mono _
   | exact LeO.none _
   | refine LeO.ite ?_ ?_
   | refine LeO.bind ?_ (fun _ => ?_)
def stickfullaw26_EllipsisPlain.T9 : Bool × List (List Nat × List Nat) := (true, [([], []), ([], []), ([1], [1]), ([], []), ([3], [3]), ([0, 2, 4, 2], [0, 2, 4]), ([5], [5]), ([6], [6]), ([6], [6]), ([7, 5, 0, 1, 2, 3, 4, 5, 6, 7], [7]), ([8, 9, 0, 1, 2, 3, 4, 5, 6, 7, 8, 9], [8])])
def stickfullaw26_EllipsisPlain.B9 : List Nat := [0, 0, 2, 0, 8, 31, 63, 127, 127, 255, 1023]
theorem stickfullaw26_EllipsisPlain.tab9 : rtab .any (opsOf Try.f6 9) = stickfullaw26_EllipsisPlain.T9 := by kernel_rfl
theorem stickfullaw26_EllipsisPlain.bits9 : waitsOk stickfullaw26_EllipsisPlain.T9.2 stickfullaw26_EllipsisPlain.B9 = true := by kernel_rfl
set_option maxHeartbeats 8000000 in
set_option maxRecDepth 100000 in
theorem stickfullaw26_EllipsisPlain.calls_t (k : Nat) (A0 : Option Addr) (c0 : Nat) (l0 : List (S53)) (a1_0 a1_1 : Int) (r : Bool) (w : World) (hr0 : Kd.C k53 w A0 l0.length l0) (hc0 : l0.length ≤ c0) (h : stickfullaw26_EllipsisPlain.f k l0 a1_0 a1_1 = some r) (hr_ : r = true) :
  Calls Try.prog 6 #[.slice A0 l0.length c0, .agg #[.int .i64 a1_0, .int .i64 a1_1]] w fun e w' => e = .returned (.bool r) ∧ Below w.heap.size w w' := by
 have hu29 := Try.underlying29
 have hu25 := Try.underlying25
 have HR_ := Aside0.mk hr_
 clear hr_
 have HR0 := Aside0.mk hr0
 have HC0 := Aside0.mk hc0
 clear hr0 hc0
 have HB := Aside0.mk (Below.refl w.heap.size w)
 have H : (if (l0.length : Int) > 100 then ((stickfullaw26_head.f k).bind fun t356 => (some t356)) else (if 0 ≤ (l0.length : Int) then (if ((l0.length : Int) : Int).toNat ≤ 281474976710656 then (stickfullaw26_EllipsisPlain.l0 k l0 (List.replicate ((l0.length : Int) : Int).toNat false) 0 a1_0 a1_1) else (none)) else (none))) = some r := h
 clear h
 by_cases c3 : (l0.length : Int) > 100
 ·rw [if_pos c3] at H
  have c3b0 : decide (100 < (l0.length : Int)) = true := decide_eq_true c3
  have c3b1 : decide (100 < l0.length) = true := decide_eq_true (by omega)
  clear c3
  replace H := Option.bind_eq_some_iff.mp H
  obtain ⟨t356, A40, H⟩ := H
  replace H : (some t356) = some r := H
  have A4 := Aside0.mk A40
  clear A40
  obtain rfl := Option.some.inj H
  go_enter Try.func6, Try.ntmps6
  go_wp2_with (first | ((with_reducible refine gate_dst (N := 3) rfl ?_); (try (refine gate_guard (by rfl) ?_; dsimp only)); refine box_event ?hg (N := 3) ?hd (cs := #[.int .i64 a1_0, .int .i64 a1_1]) (t := 29) ?hr ?_; (case hd => rfl); (case hg => rfl); (case hr => first | (go_simp; done) | (go_simp; rfl)); intro gb355 hg w5 hbox hb; have BK355 := Aside0.mk (hbox); have GW355 := bge HB hg; have GE355 := bge HB hg; replace HB := bh HB hb; clear hb hbox hg) | ((with_reducible refine gate_callee (f := 9) rfl ?_); refine goesB (some 17) rfl rfl Try.func9 #[] rfl ?_; (with_reducible refine (stickfullaw26_head.calls k  t356 _ A4.out).mono ?_); rintro e w6 ⟨rfl, hb⟩; refine ⟨_, rfl, ?_⟩; replace BK355 := bb BK355 hb; replace HB := bh HB hb; (try clear hb); (try clear hb2); (try clear hk); (try clear hi)))
  go_ret
  exact ⟨by first | rfl | (simp [errW_none, errW_some] <;> rfl) | (simp [*, errW_none, errW_some] <;> rfl), by repeat (first | (with_reducible first | exact HB.out | apply below_alloc | apply pw_below_drewN | apply below_drew1 | refine below_set ?_ GE355.out) | exact HB.out)⟩
 ·rw [if_neg c3] at H
  have c3b0 : decide (100 < (l0.length : Int)) = false := decide_eq_false c3
  have c3b1 : decide (100 < l0.length) = false := decide_eq_false (by omega)
  clear c3
  by_cases c7 : 0 ≤ (l0.length : Int)
  ·rw [if_pos c7] at H
   have c7b0 := eq_true c7
   have c7b1 : decide (0 ≤ (l0.length : Int)) = true := decide_eq_true c7
   clear c7
   by_cases c8 : ((l0.length : Int) : Int).toNat ≤ 281474976710656
   ·rw [if_pos c8] at H
    have c8b0 := eq_true c8
    have c8b1 : decide (((l0.length : Int) : Int).toNat ≤ 281474976710656) = true := decide_eq_true c8
    clear c8
    obtain ⟨y357, hy357⟩ : ∃ y_ : List Bool, y_ = (List.replicate ((l0.length : Int) : Int).toNat false) := ⟨_, rfl⟩
    replace H : (stickfullaw26_EllipsisPlain.l0 k l0 y357 0 a1_0 a1_1) = some r := by first | (rw [hy357]; with_reducible exact H) | (have H2_ := (Option.bind_some _ _).symm.trans H; rw [hy357]; with_reducible exact H2_) | (have H2_ := (Option.bind_some _ _).symm.trans H; with_reducible exact H2_) | with_reducible exact H | (rw [hy357]; exact H) | exact H
    have Ny357 := Aside0.mk hy357
    clear hy357
    have H' := Aside0.mk H
    clear H
    go_enter Try.func6, Try.ntmps6
    go_wp2_with (first | ((with_reducible refine gate_dst (N := 3) rfl ?_); (try (refine gate_guard (by rfl) ?_; dsimp only)); refine box_event ?hg (N := 3) ?hd (cs := #[.int .i64 a1_0, .int .i64 a1_1]) (t := 29) ?hr ?_; (case hd => rfl); (case hg => rfl); (case hr => first | (go_simp; done) | (go_simp; rfl)); intro gb355 hg w9 hbox hb; have BK355 := Aside0.mk (hbox); have GW355 := bge HB hg; have GE355 := bge HB hg; replace HB := bh HB hb; clear hb hbox hg) | ((with_reducible refine gate_dst (N := 20) rfl ?_); (try (refine gate_guard (by rfl) ?_; dsimp only)); refine Kd.R_make Kd.bool _ 4 rfl (N := 20) rfl 23 _ _ rfl (l0.length : Int) rfl rfl Try.underlying23 (.bool false) 1 info4 rfl (by decide) (by omega) false (ok := fun _ => True) (okp := fun _ => True) rfl (fun _ hk => hk) trivial (of_decide_eq_true (by first | (with_reducible assumption) | assumption)) (Nat.le_trans (Nat.mul_le_mul_right _ (of_decide_eq_true (by first | (with_reducible assumption) | assumption) : (l0.length : Int).toNat ≤ 281474976710656)) (by omega)) (Below.refl _ _) (Nat.le_refl _) ?_; intro v358 w10 ho11 hb hg_ hnew_; clear hg_ hnew_; (first | rw [← Ny357.out] at ho11 | (simp only [Int.reduceToNat] at ho11; rw [← Ny357.out] at ho11)); have HO359 := Aside0.mk (Kd.R_lower ho11 (below_size (bw HB))); replace BK355 := bb BK355 hb; replace HB := bh HB hb; clear hb ho11))
    go_loopg [6] k (fun kq v6 w' => ∃ (x5_1 : List Bool) (x6_1 : Int), v6 = .int .i64 x6_1 ∧ Aside0 (stickfullaw26_EllipsisPlain.l0 kq l0 x5_1 x6_1 a1_0 a1_1 = some r) ∧ Aside0 (kq ≤ k) ∧ Aside0 (Kd.R Kd.bool 4 w' w.heap.size (fun _ => True) v358 x5_1) ∧ Aside0 (w'.heap[gb355]? = some (.cells #[.int .i64 a1_0, .int .i64 a1_1] 29 (0, 0))) ∧ Aside0 (Below w.heap.size w w'))
    case atStart => exact ⟨(y357), (0), (by first | rfl | (simp; done) | (simp [*]; done)), H', ⟨Nat.le_refl _⟩, ⟨by (with_reducible repeat (first | apply Kd.R_alloc | apply Kd.R_drewN | apply Kd.R_drew)); exact HO359.out⟩, ⟨by (with_reducible repeat (first | refine blk_drewN ?_ _ | refine blk_drew ?_ | refine blk_alloc ?_ _)); exact BK355.out⟩, ⟨by repeat (first | (with_reducible first | exact HB.out | apply below_alloc | apply pw_below_drewN | apply below_drew1 | refine below_set ?_ GE355.out) | exact HB.out)⟩⟩
    case round =>
     clear H'
     try clear p2
     try clear c3
     try clear c3b0
     try clear c3b1
     try clear c6
     try clear c7
     try clear c7b0
     try clear c7b1
     try clear c8
     try clear c8b0
     try clear c8b1
     try clear c9
     obtain ⟨x5_1, x6_1, rfl, HA, HK1, HO_5, BK355, HB⟩ := hrel
     cases gk with
     | zero => exact absurd HA.out (by simp [stickfullaw26_EllipsisPlain.l0])
     | succ k1 =>
      have H := HA.out
      clear HA
      simp only [stickfullaw26_EllipsisPlain.l0] at H
      by_cases c12 : x6_1 < (l0.length : Int)
      ·rw [if_pos c12] at H
       have c12b0 : decide (x6_1 < (l0.length : Int)) = true := decide_eq_true c12
       clear c12
       by_cases c13 : 0 ≤ x6_1
       ·rw [if_pos c13] at H
        have c13b0 : decide (0 ≤ x6_1) = true := decide_eq_true c13
        clear c13
        by_cases c14 : x6_1 < (x5_1.length : Int)
        ·rw [if_pos c14] at H
         have c14b0 : decide (x6_1 < (x5_1.length : Int)) = true := decide_eq_true c14
         clear c14
         obtain ⟨y360, hy360⟩ : ∃ y_ : List Bool, y_ = (x5_1.set (x6_1 : Int).toNat true) := ⟨_, rfl⟩
         replace H : (stickfullaw26_EllipsisPlain.l0 k1 l0 y360 (wrap64 (x6_1 + 1)) a1_0 a1_1) = some r := by first | (rw [hy360]; with_reducible exact H) | (have H2_ := (Option.bind_some _ _).symm.trans H; rw [hy360]; with_reducible exact H2_) | (have H2_ := (Option.bind_some _ _).symm.trans H; with_reducible exact H2_) | with_reducible exact H | (rw [hy360]; exact H) | exact H
         have Ny360 := Aside0.mk hy360
         clear hy360
         have H' := Aside0.mk H
         clear H
         have p15 : 0 ≤ (x6_1 : Int) := of_decide_eq_true (by first | (with_reducible assumption) | assumption)
         have q15 : (x6_1 : Int) < ((x5_1.length : Int) : Int) := of_decide_eq_true (by first | (with_reducible assumption) | assumption)
         obtain ⟨go15, co15, eo15, gb15, gl15, cl15, HG15⟩ := Kd.R_form HO_5.out (by omega)
         (first | cases eo15 | (injection eo15 with ea_ en_ ec_; (first | subst ea_ | (injection ea_ with ea_; subst ea_)); subst ec_; clear en_))
         have GB15 := Aside0.mk gb15
         have GG15 := Aside0.mk HG15
         clear gb15 gl15 HG15
         obtain ⟨hx15_0, hf15_0⟩ := Kd.R_celln false HO_5.out (x6_1 : Int) p15 q15
         replace p15 := eq_true p15
         replace q15 := eq_true q15
         have HP16 := Kd.R_putg HO_5.out (x6_1 : Int) true
         go_wp2_with (first | ((with_reducible refine gate_store (t := 4) (p := 29) rfl ?_); refine store_event (t := 4) (p := 29) (v := ?vo_w17) (w1 := (wr.setCell ⟨go15, (x6_1 : Int).toNat, none⟩ (.bool true))) ?hg ?ho ?hn ?hr ?_; (case ho => rfl); (case hg => rfl); (case hn => rfl); (case hr => first | (go_simp; done) | (go_simp; rfl)); intro w17 hw; have hg : wr.grownBy w17 (some go15) := (by rw [hw]; exact HP16.2); have hp_ : Kd.R Kd.bool 4 w17 w.heap.size (fun _ => True) (.slice (some ⟨go15, 0, none⟩) x5_1.length co15) y360 := (by rw [hw, Ny360.out]; exact HP16.1); clear HP16; replace BK355 := Aside0.mk (blk_grown (bx BK355) hg (by first | exact Kd.R_ne HO_5.out BK355.out (by decide) | exact (fun e => by have z := And.left HO_5.out _ e.symm; simp at z))); replace HO_5 := Aside0.mk (hp_); replace HB := Aside0.mk ((by rw [hw]; exact below_set (HB.out) GB15.out : Below w.heap.size w w17)); clear hg hw hp_))
         go_roundg k1
         case measure => have := HK1.out; omega
         case rel => exact ⟨(y360), (wrap64 (x6_1 + 1)), (by first | rfl | (simp; done) | (simp [*]; done)), H', ⟨by have := HK1.out; omega⟩, ⟨by (with_reducible repeat (first | apply Kd.R_alloc | apply Kd.R_drewN | apply Kd.R_drew)); exact HO_5.out⟩, ⟨by (with_reducible repeat (first | refine blk_drewN ?_ _ | refine blk_drew ?_ | refine blk_alloc ?_ _)); exact BK355.out⟩, ⟨by repeat (first | (with_reducible first | exact HB.out | apply below_alloc | apply pw_below_drewN | apply below_drew1 | refine below_set ?_ GE355.out) | exact HB.out)⟩⟩
        ·rw [if_neg c14] at H
         exact absurd H (by simp)
       ·rw [if_neg c13] at H
        exact absurd H (by simp)
      ·rw [if_neg c12] at H
       have c12b0 : decide (x6_1 < (l0.length : Int)) = false := decide_eq_false c12
       clear c12
       replace H := Option.bind_eq_some_iff.mp H
       obtain ⟨⟨t361, t362, t363, t364⟩, A180, H⟩ := H
       replace H : ((trim_Roles.f l0).bind fun t365 => ((tabs_Pens.f l0 t365 a1_1).bind fun bt368 => (if t364 = 0 then (if bt368.2 = 0 then (if (bt368.1.length : Int) = (wrap64 ((l0.length : Int) + 1)) then (if t361 < 0 then (stickfullaw26_EllipsisPlain.j1 k1 l0 t361 t362 t363 t364 bt368.1 true a1_0 a1_1) else (stickfullaw26_EllipsisPlain.j1 k1 l0 t361 t362 t363 t364 bt368.1 (decide (t361 > (l0.length : Int))) a1_0 a1_1)) else (stickfullaw26_EllipsisPlain.j1 k1 l0 t361 t362 t363 t364 bt368.1 true a1_0 a1_1)) else (stickfullaw26_EllipsisPlain.j1 k1 l0 t361 t362 t363 t364 bt368.1 true a1_0 a1_1)) else (stickfullaw26_EllipsisPlain.j1 k1 l0 t361 t362 t363 t364 bt368.1 true a1_0 a1_1)))) = some r := H
       have A18 := Aside0.mk A180
       clear A180
       replace H := Option.bind_eq_some_iff.mp H
       obtain ⟨t365, A190, H⟩ := H
       replace H : ((tabs_Pens.f l0 t365 a1_1).bind fun bt368 => (if t364 = 0 then (if bt368.2 = 0 then (if (bt368.1.length : Int) = (wrap64 ((l0.length : Int) + 1)) then (if t361 < 0 then (stickfullaw26_EllipsisPlain.j1 k1 l0 t361 t362 t363 t364 bt368.1 true a1_0 a1_1) else (stickfullaw26_EllipsisPlain.j1 k1 l0 t361 t362 t363 t364 bt368.1 (decide (t361 > (l0.length : Int))) a1_0 a1_1)) else (stickfullaw26_EllipsisPlain.j1 k1 l0 t361 t362 t363 t364 bt368.1 true a1_0 a1_1)) else (stickfullaw26_EllipsisPlain.j1 k1 l0 t361 t362 t363 t364 bt368.1 true a1_0 a1_1)) else (stickfullaw26_EllipsisPlain.j1 k1 l0 t361 t362 t363 t364 bt368.1 true a1_0 a1_1))) = some r := H
       have A19 := Aside0.mk A190
       clear A190
       replace H := Option.bind_eq_some_iff.mp H
       obtain ⟨⟨t368, t369⟩, A200, H⟩ := H
       replace H : (if t364 = 0 then (if t369 = 0 then (if (t368.length : Int) = (wrap64 ((l0.length : Int) + 1)) then (if t361 < 0 then (stickfullaw26_EllipsisPlain.j1 k1 l0 t361 t362 t363 t364 t368 true a1_0 a1_1) else (stickfullaw26_EllipsisPlain.j1 k1 l0 t361 t362 t363 t364 t368 (decide (t361 > (l0.length : Int))) a1_0 a1_1)) else (stickfullaw26_EllipsisPlain.j1 k1 l0 t361 t362 t363 t364 t368 true a1_0 a1_1)) else (stickfullaw26_EllipsisPlain.j1 k1 l0 t361 t362 t363 t364 t368 true a1_0 a1_1)) else (stickfullaw26_EllipsisPlain.j1 k1 l0 t361 t362 t363 t364 t368 true a1_0 a1_1)) = some r := H
       have A20 := Aside0.mk A200
       clear A200
       have HC21 := Aside0.mk H
       clear H
       obtain ⟨hcz22_0, hcz22_1⟩ := cz2 BK355
       obtain ⟨hfz22_0, hfz22_1⟩ := fz2 BK355
       obtain ⟨Ao23, co23, eo23⟩ := Kd.R_slice HO_5.out
       subst eo23
       try go_wp2_with (first | ((with_reducible refine gate_callee (f := 10) rfl ?_); refine goesB (some 37) rfl rfl Try.func10 #[.slice A0 l0.length c0, .slice Ao23 x5_1.length co23, .agg #[.int .i64 0, .int .i64 (l0.length : Int), .bool false], .agg #[.int .i64 a1_0, .int .i64 a1_1], .int .i64 0] rfl ?_; (with_reducible refine (ellipsis_Cut.calls _ _ l0 _ _ x5_1 0 (l0.length : Int) false a1_0 a1_1 0 t361 t362 t363 t364 _ ?side1 ?side2 ?side3 ?side4 A18.out).mono ?_); (case side1 => repeat (first | exact (Kd.C_below HR0.out HB.out) | (with_reducible refine Kd.C_alloc ?_ _) | (with_reducible refine Kd.C_drewN ?_ _) | (with_reducible refine Kd.C_drew ?_))); (case side2 => exact HC0.out); (case side3 => repeat (first | exact (Kd.R_reads' HO_5.out).2.2 | (with_reducible refine Kd.C_alloc ?_ _) | (with_reducible refine Kd.C_drewN ?_ _) | (with_reducible refine Kd.C_drew ?_))); (case side4 => exact (Kd.R_reads' HO_5.out).2.1); rintro e w24 ⟨rfl, hb⟩; refine ⟨_, rfl, ?_⟩; replace HO_5 := Aside0.mk (Kd.R_below (rx HO_5) hb); replace BK355 := bb BK355 hb; replace HB := bh HB hb; (try clear hb); (try clear hb2); (try clear hk); (try clear hi)))
       replace HO_5 := Aside0.mk (Kd.R_drew HO_5.out)
       replace BK355 := Aside0.mk (blk_drew BK355.out)
       replace HB := Aside0.mk (below_drew1 HB.out)
       refine start_ (n := 11) (S := fun w' => w'.cell? ⟨gb355, 0, none⟩ = some (.int .i64 a1_0) ∧ w'.cell? ⟨gb355, 1, none⟩ = some (.int .i64 a1_1)) (ds := []) (stickfullaw26_EllipsisPlain.bm 11 0) (by kernel_rfl) rfl rfl ⟨bc BK355 0, bc BK355 1⟩ (fun hHeld => ?_); refine with_tabW stickfullaw26_EllipsisPlain.tab9 stickfullaw26_EllipsisPlain.bits9 (fun HT_ HW_ => ?_)
       generalize w24.drew = w25 at HO_5 BK355 HB hHeld ⊢
       refine pure_ (i := 0) (N := some 43) (v := ?_) (a' := ?_) (stickfullaw26_EllipsisPlain.bm 11 1) rfl rfl (any_of HT_.out (by kernel_rfl)) (fun _ _ _ h => h) (Or.inl ⟨by rfl, ?_⟩) ?_ ?_
       rotate_left; (focus intro w'; go_simp; with_reducible rfl); rotate_left; (focus simp only [Act.put, List.setIfInBounds_toArray, List.set_cons_zero, List.set_cons_succ, i64_w, i32_w]; rfl)
       refine pure_ (i := 1) (N := some 44) (v := ?_) (a' := ?_) (stickfullaw26_EllipsisPlain.bm 11 3) rfl rfl (any_of HT_.out (by kernel_rfl)) (fun _ _ _ h => h) (Or.inl ⟨by rfl, ?_⟩) ?_ ?_
       rotate_left; (focus intro w'; go_simp; with_reducible rfl); rotate_left; (focus simp only [Act.put, List.setIfInBounds_toArray, List.set_cons_zero, List.set_cons_succ, i64_w, i32_w]; rfl)
       refine pure_ (i := 3) (N := some 46) (v := ?_) (a' := ?_) (stickfullaw26_EllipsisPlain.bm 11 11) rfl rfl (any_of HT_.out (by kernel_rfl)) (fun _ _ _ h => h) (Or.inl ⟨by rfl, ?_⟩) ?_ ?_
       rotate_left; (focus intro w'; go_simp; with_reducible rfl); rotate_left; (focus simp only [Act.put, List.setIfInBounds_toArray, List.set_cons_zero, List.set_cons_succ, i64_w, i32_w]; rfl)
       refine take_ (i := 4) (N := some 47) (v := ?_) (a' := ?_) (stickfullaw26_EllipsisPlain.bm 11 27) rfl rfl (take_ofW HT_.out HW_.out (by kernel_rfl)) (fun _ _ _ h => h) (Or.inl ⟨by rfl, ?_⟩) hHeld ?_ ?_
       rotate_left; (focus rintro w' ⟨s0, s1⟩; go_simp; with_reducible rfl); rotate_left; (focus simp only [Act.put, List.setIfInBounds_toArray, List.set_cons_zero, List.set_cons_succ, i64_w, i32_w]; rfl)
       refine one_ (i := 2) (N := some 45) (stickfullaw26_EllipsisPlain.bm 11 31) rfl rfl (one_of HT_.out (by kernel_rfl)) (by decide) (fun K hK => ?_)
       refine goes_ Try.func19 (by kernel_rfl) rfl #[.slice A0 l0.length c0] (by rfl) rfl rfl (by (try simp only [List.map_toArray, List.map_cons, List.map_nil]); first | done | rfl | (simp only [List.length_drop, List.length_take]; rfl)) ?_
       with_reducible refine (trim_Roles.calls _ _ l0 t365 _ ?side1 ?side2 A19.out).mono ?_
       (case side1 => repeat (first | exact (Kd.C_below HR0.out HB.out) | (with_reducible refine Kd.C_alloc ?_ _) | (with_reducible refine Kd.C_drewN ?_ _) | (with_reducible refine Kd.C_drew ?_)))
       (case side2 => exact HC0.out)
       rintro e w26 ⟨v366, rfl, ho0, hb⟩
       refine ⟨_, rfl, ?_⟩
       replace HO_5 := Aside0.mk (Kd.R_below (rx HO_5) hb)
       have HO367 := Aside0.mk (Kd.R_lower ho0 (below_size (bw HB)))
       replace BK355 := bb BK355 hb
       replace HB := bh HB hb
       (try clear hb)
       (try clear hb2)
       (try clear hk)
       (try clear hi)
       (try clear ho0)
       obtain ⟨Ao27, co27, eo27⟩ := Kd.R_slice HO367.out
       (first | subst eo27 | (injection eo27 with f1_ f2_ f3_; have f4_ := f1_.symm; have f5_ := f3_.symm; clear f1_ f2_ f3_; subst f4_; subst f5_))
       refine hK.out _ _ ⟨bc BK355 0, bc BK355 1⟩ (fun hHeld => ?_)
       clear hK K
       refine norm_ (a' := ?_) ?_ ?_
       rotate_left; (focus show Act.put _ (some 45) _ = _; simp only [Act.put, List.setIfInBounds_toArray, List.set_cons_zero, List.set_cons_succ, i64_w, i32_w]; rfl)
       refine one_ (i := 5) (N := some 48) (stickfullaw26_EllipsisPlain.bm 11 63) rfl rfl (one_of HT_.out (by kernel_rfl)) (by decide) (fun K hK => ?_)
       refine goes_ Try.func18 (by kernel_rfl) rfl #[.slice A0 l0.length c0, .slice Ao27 t365.length co27, .int .i64 a1_1] (by rfl) rfl rfl (by (try simp only [List.map_toArray, List.map_cons, List.map_nil]); first | done | rfl | (simp only [List.length_drop, List.length_take]; rfl)) ?_
       with_reducible refine (tabs_Pens.calls _ _ l0 _ _ t365 a1_1 t368 t369 _ ?side1 ?side2 ?side3 ?side4 A20.out).mono ?_
       (case side1 => repeat (first | exact (Kd.C_below HR0.out HB.out) | (with_reducible refine Kd.C_alloc ?_ _) | (with_reducible refine Kd.C_drewN ?_ _) | (with_reducible refine Kd.C_drew ?_)))
       (case side2 => exact HC0.out)
       (case side3 => repeat (first | exact (Kd.R_reads' HO367.out).2.2 | (with_reducible refine Kd.C_alloc ?_ _) | (with_reducible refine Kd.C_drewN ?_ _) | (with_reducible refine Kd.C_drew ?_)))
       (case side4 => exact (Kd.R_reads' HO367.out).2.1)
       rintro e w28 ⟨v370, rfl, ho0, hb⟩
       refine ⟨_, rfl, ?_⟩
       replace HO_5 := Aside0.mk (Kd.R_below (rx HO_5) hb)
       replace HO367 := Aside0.mk (Kd.R_below (rx HO367) hb)
       have HO371 := Aside0.mk (Kd.R_lower ho0 (below_size (bw HB)))
       replace BK355 := bb BK355 hb
       replace HB := bh HB hb
       (try clear hb)
       (try clear hb2)
       (try clear hk)
       (try clear hi)
       (try clear ho0)
       refine hK.out _ _ ⟨bc BK355 0, bc BK355 1⟩ (fun hHeld => ?_)
       clear hK K
       refine norm_ (a' := ?_) ?_ ?_
       rotate_left; (focus show Act.put _ (some 48) _ = _; simp only [Act.put, List.setIfInBounds_toArray, List.set_cons_zero, List.set_cons_succ, i64_w, i32_w]; rfl)
       refine pure_ (i := 6) (N := some 42) (v := ?_) (a' := ?_) (stickfullaw26_EllipsisPlain.bm 11 127) rfl rfl (any_of HT_.out (by kernel_rfl)) (fun _ _ _ h => h) (Or.inl ⟨by rfl, ?_⟩) ?_ ?_
       rotate_left; (focus intro w'; go_simp; with_reducible rfl); rotate_left; (focus simp only [Act.put, List.setIfInBounds_toArray, List.set_cons_zero, List.set_cons_succ, i64_w, i32_w]; rfl)
       refine pure_ (i := 7) (N := some 49) (v := ?_) (a' := ?_) (stickfullaw26_EllipsisPlain.bm 11 255) rfl rfl (any_of HT_.out (by kernel_rfl)) (fun _ _ _ h => h) (Or.inl ⟨by rfl, ?_⟩) ?_ ?_
       rotate_left; (focus intro w'; go_simp; with_reducible rfl); rotate_left; (focus simp only [Act.put, List.setIfInBounds_toArray, List.set_cons_zero, List.set_cons_succ, i64_w, i32_w]; rfl)
       refine pure_ (i := 8) (N := some 50) (v := ?_) (a' := ?_) (stickfullaw26_EllipsisPlain.bm 11 511) rfl rfl (any_of HT_.out (by kernel_rfl)) (fun _ _ _ h => h) (Or.inl ⟨by rfl, ?_⟩) ?_ ?_
       rotate_left; (focus intro w'; go_simp; with_reducible rfl); rotate_left; (focus simp only [Act.put, List.setIfInBounds_toArray, List.set_cons_zero, List.set_cons_succ, i64_w, i32_w]; rfl)
       refine pure_ (i := 9) (N := some 11) (v := ?_) (a' := ?_) (stickfullaw26_EllipsisPlain.bm 11 1023) rfl rfl (any_of HT_.out (by kernel_rfl)) (fun _ _ _ h => h) (Or.inl ⟨by rfl, ?_⟩) ?_ ?_
       rotate_left; (focus intro w'; go_simp; with_reducible rfl); rotate_left; (focus simp only [Act.put, List.setIfInBounds_toArray, List.set_cons_zero, List.set_cons_succ, i64_w, i32_w]; rfl)
       refine pure_ (i := 10) (N := some 12) (v := ?_) (a' := ?_) (stickfullaw26_EllipsisPlain.bm 11 2047) rfl rfl (any_of HT_.out (by kernel_rfl)) (fun _ _ _ h => h) (Or.inl ⟨by rfl, ?_⟩) ?_ ?_
       rotate_left; (focus intro w'; go_simp; with_reducible rfl); rotate_left; (focus simp only [Act.put, List.setIfInBounds_toArray, List.set_cons_zero, List.set_cons_succ, i64_w, i32_w]; rfl)
       refine done_ (done_of HT_.out (by kernel_rfl)) ?_
       go_upto_region 10 with (fail)
       go_cut [74] (fun v74 wc => ∃ (kq : Nat) (x74_20 : Bool), v74 = .bool x74_20 ∧ Aside0 (stickfullaw26_EllipsisPlain.j1 kq l0 t361 t362 t363 t364 t368 x74_20 a1_0 a1_1 = some r) ∧ Aside0 (kq ≤ k1) ∧ Aside0 (Kd.R (Kd.int .i64) 2 wc w.heap.size (fun _ => True) v370 t368) ∧ Aside0 (wc.heap[gb355]? = some (.cells #[.int .i64 a1_0, .int .i64 a1_1] 29 (0, 0))) ∧ Aside0 (Below w.heap.size w wc))
       case first =>
        have H := HC21.out
        clear HC21
        by_cases c29 : t364 = 0
        ·rw [if_pos c29] at H
         have c29b0 : (t364 == 0) = true := beq_iff_eq.mpr c29
         have c29b1 : (t364 != 0) = false := bne_eq_false_iff_eq.mpr c29
         clear c29
         (first | rw [c29b0] | (simp only [i64_w, i32_w]; rw [c29b0]) | skip)
         by_cases c30 : t369 = 0
         ·rw [if_pos c30] at H
          have c30b0 : (t369 == 0) = true := beq_iff_eq.mpr c30
          have c30b1 : (t369 != 0) = false := bne_eq_false_iff_eq.mpr c30
          clear c30
          by_cases c31 : (t368.length : Int) = (wrap64 ((l0.length : Int) + 1))
          ·rw [if_pos c31] at H
           have c31b0 : ((t368.length : Int) == (wrap64 ((l0.length : Int) + 1))) = true := beq_iff_eq.mpr c31
           have c31b1 : ((t368.length : Int) != (wrap64 ((l0.length : Int) + 1))) = false := bne_eq_false_iff_eq.mpr c31
           clear c31
           by_cases c32 : t361 < 0
           ·rw [if_pos c32] at H
            have c32b0 : decide (t361 < 0) = true := decide_eq_true c32
            clear c32
            have H' := Aside0.mk H
            clear H
            obtain ⟨Ao33, co33, eo33⟩ := Kd.R_slice HO371.out
            subst eo33
            go_wp2
            go_meet
            case rel => exact ⟨_, (true), (by first | rfl | (simp; done) | (simp [*]; done)), H', ⟨by have := HK1.out; first | omega | exact Nat.le_refl _⟩, ⟨by (with_reducible repeat (first | apply Kd.R_alloc | apply Kd.R_drewN | apply Kd.R_drew)); exact HO371.out⟩, ⟨by (with_reducible repeat (first | refine blk_drewN ?_ _ | refine blk_drew ?_ | refine blk_alloc ?_ _)); exact BK355.out⟩, ⟨by repeat (first | (with_reducible first | exact HB.out | apply below_alloc | apply pw_below_drewN | apply below_drew1 | refine below_set ?_ GE355.out) | exact HB.out)⟩⟩
           ·rw [if_neg c32] at H
            have c32b0 : decide (t361 < 0) = false := decide_eq_false c32
            clear c32
            have H' := Aside0.mk H
            clear H
            obtain ⟨Ao34, co34, eo34⟩ := Kd.R_slice HO371.out
            subst eo34
            go_wp2
            go_meet
            case rel => exact ⟨_, (decide (t361 > (l0.length : Int))), (by first | rfl | (simp; done) | (simp [*]; done)), H', ⟨by have := HK1.out; first | omega | exact Nat.le_refl _⟩, ⟨by (with_reducible repeat (first | apply Kd.R_alloc | apply Kd.R_drewN | apply Kd.R_drew)); exact HO371.out⟩, ⟨by (with_reducible repeat (first | refine blk_drewN ?_ _ | refine blk_drew ?_ | refine blk_alloc ?_ _)); exact BK355.out⟩, ⟨by repeat (first | (with_reducible first | exact HB.out | apply below_alloc | apply pw_below_drewN | apply below_drew1 | refine below_set ?_ GE355.out) | exact HB.out)⟩⟩
          ·rw [if_neg c31] at H
           have c31b0 : ((t368.length : Int) == (wrap64 ((l0.length : Int) + 1))) = false := beq_eq_false_iff_ne.mpr c31
           have c31b1 : ((t368.length : Int) != (wrap64 ((l0.length : Int) + 1))) = true := bne_iff_ne.mpr c31
           have H' := Aside0.mk H
           clear H
           obtain ⟨Ao35, co35, eo35⟩ := Kd.R_slice HO371.out
           subst eo35
           go_wp2
           go_meet
           case rel => exact ⟨_, (true), (by first | rfl | (simp; done) | (simp [*]; done)), H', ⟨by have := HK1.out; first | omega | exact Nat.le_refl _⟩, ⟨by (with_reducible repeat (first | apply Kd.R_alloc | apply Kd.R_drewN | apply Kd.R_drew)); exact HO371.out⟩, ⟨by (with_reducible repeat (first | refine blk_drewN ?_ _ | refine blk_drew ?_ | refine blk_alloc ?_ _)); exact BK355.out⟩, ⟨by repeat (first | (with_reducible first | exact HB.out | apply below_alloc | apply pw_below_drewN | apply below_drew1 | refine below_set ?_ GE355.out) | exact HB.out)⟩⟩
         ·rw [if_neg c30] at H
          have c30b0 : (t369 == 0) = false := beq_eq_false_iff_ne.mpr c30
          have c30b1 : (t369 != 0) = true := bne_iff_ne.mpr c30
          have H' := Aside0.mk H
          clear H
          go_wp2
          go_meet
          case rel => exact ⟨_, (true), (by first | rfl | (simp; done) | (simp [*]; done)), H', ⟨by have := HK1.out; first | omega | exact Nat.le_refl _⟩, ⟨by (with_reducible repeat (first | apply Kd.R_alloc | apply Kd.R_drewN | apply Kd.R_drew)); exact HO371.out⟩, ⟨by (with_reducible repeat (first | refine blk_drewN ?_ _ | refine blk_drew ?_ | refine blk_alloc ?_ _)); exact BK355.out⟩, ⟨by repeat (first | (with_reducible first | exact HB.out | apply below_alloc | apply pw_below_drewN | apply below_drew1 | refine below_set ?_ GE355.out) | exact HB.out)⟩⟩
        ·rw [if_neg c29] at H
         have c29b0 : (t364 == 0) = false := beq_eq_false_iff_ne.mpr c29
         have c29b1 : (t364 != 0) = true := bne_iff_ne.mpr c29
         (first | rw [c29b0] | (simp only [i64_w, i32_w]; rw [c29b0]) | skip)
         have H' := Aside0.mk H
         clear H
         go_wp2
         go_meet
         case rel => exact ⟨_, (true), (by first | rfl | (simp; done) | (simp [*]; done)), H', ⟨by have := HK1.out; first | omega | exact Nat.le_refl _⟩, ⟨by (with_reducible repeat (first | apply Kd.R_alloc | apply Kd.R_drewN | apply Kd.R_drew)); exact HO371.out⟩, ⟨by (with_reducible repeat (first | refine blk_drewN ?_ _ | refine blk_drew ?_ | refine blk_alloc ?_ _)); exact BK355.out⟩, ⟨by repeat (first | (with_reducible first | exact HB.out | apply below_alloc | apply pw_below_drewN | apply below_drew1 | refine below_set ?_ GE355.out) | exact HB.out)⟩⟩
       case rest =>
        clear HC21
        try clear c1
        try clear p1
        try clear q1
        try clear hx1
        try clear c2
        try clear p2
        try clear c3
        try clear c3b0
        try clear c3b1
        try clear c6
        try clear p6
        try clear c7
        try clear c7b0
        try clear c7b1
        try clear c8
        try clear c8b0
        try clear c8b1
        try clear c9
        try clear c10
        try clear c12
        try clear c12b0
        try clear c13
        try clear c13b0
        try clear c14
        try clear c14b0
        try clear p15
        try clear q15
        try clear hx15
        try clear hf15
        try clear c18
        try clear c19
        try clear c29
        try clear c29b0
        try clear c29b1
        try clear c30
        try clear c30b0
        try clear c30b1
        try clear c31
        try clear c31b0
        try clear c31b1
        try clear c32
        try clear c32b0
        try clear hcz22_0
        try clear hcz22_1
        try clear hfz22_0
        try clear hfz22_1
        try clear hx15_0
        try clear p15
        try clear p2
        try clear q15
        obtain ⟨kq, x74_20, rfl, HA, HJ20, HO_11, BK355, HB⟩ := hcut
        cases kq with
        | zero => exact absurd HA.out (by simp [stickfullaw26_EllipsisPlain.j1])
        | succ kj20 =>
         have H := HA.out
         clear HA
         simp only [stickfullaw26_EllipsisPlain.j1] at H
         by_cases c36 : x74_20 = true
         ·subst c36
          have H1 : (if t364 = 0 then (some false) else ((stickfullaw26_head.f kj20).bind fun t372 => (some t372))) = some r := by rw [if_pos rfl] at H; exact H
          clear H
          have H := H1
          clear H1
          by_cases c37 : t364 = 0
          ·rw [if_pos c37] at H
           have c37b0 : (t364 == 0) = true := beq_iff_eq.mpr c37
           have c37b1 : (t364 != 0) = false := bne_eq_false_iff_eq.mpr c37
           clear c37
           exact absurd ((Option.some.inj H).trans HR_.out) (by decide)
          ·rw [if_neg c37] at H
           have c37b0 : (t364 == 0) = false := beq_eq_false_iff_ne.mpr c37
           have c37b1 : (t364 != 0) = true := bne_iff_ne.mpr c37
           replace H := Option.bind_eq_some_iff.mp H
           obtain ⟨t372, A380, H⟩ := H
           replace H : (some t372) = some r := H
           have A38 := Aside0.mk A380
           clear A380
           obtain rfl := Option.some.inj H
           go_wp2_with (first | (go_at_call 9; (with_reducible refine (stickfullaw26_head.calls kj20  t372 _ A38.out).mono ?_); rintro e w39 ⟨rfl, hb⟩; replace HO_11 := Aside0.mk (Kd.R_below (rx HO_11) hb); replace BK355 := bb BK355 hb; replace HB := bh HB hb; (try clear hb); (try clear hb2); (try clear hk); (try clear hi)))
           go_ret
           exact ⟨by first | rfl | (simp [errW_none, errW_some] <;> rfl) | (simp [*, errW_none, errW_some] <;> rfl), by repeat (first | (with_reducible first | exact HB.out | apply below_alloc | apply pw_below_drewN | apply below_drew1 | refine below_set ?_ GE355.out) | exact HB.out)⟩
         ·replace c36 := Bool.eq_false_iff.mpr c36
          subst c36
          have H1 : (if 0 ≤ t361 then (if t361 < (t368.length : Int) then (if t362 = (rd t368 t361) then (stickfullaw26_EllipsisPlain.l1 kj20 l0 t361 t362 t363 t368 (wrap64 (t361 + 1)) a1_0 a1_1) else (some false)) else (none)) else (none)) = some r := by rw [if_neg (show ¬ (false = true) by decide)] at H; exact H
          clear H
          have H := H1
          clear H1
          by_cases c40 : 0 ≤ t361
          ·rw [if_pos c40] at H
           have c40b0 : decide (0 ≤ t361) = true := decide_eq_true c40
           clear c40
           by_cases c41 : t361 < (t368.length : Int)
           ·rw [if_pos c41] at H
            have c41b0 : decide (t361 < (t368.length : Int)) = true := decide_eq_true c41
            clear c41
            by_cases c42 : t362 = (rd t368 t361)
            ·rw [if_pos c42] at H
             have c42b0 : (t362 == (rd t368 t361)) = true := beq_iff_eq.mpr c42
             have c42b1 : (t362 != (rd t368 t361)) = false := bne_eq_false_iff_eq.mpr c42
             clear c42
             have H' := Aside0.mk H
             clear H
             obtain ⟨Ao43, co43, eo43⟩ := Kd.R_slice HO_11.out
             subst eo43
             have p373 : 0 ≤ (t361 : Int) := of_decide_eq_true (by first | (with_reducible assumption) | assumption)
             have q373 : t361 < (t368.length : Int) := of_decide_eq_true (by first | (with_reducible assumption) | assumption)
             obtain ⟨ad373, e373, hx373_0⟩ := Kd.at_int (Kd.R_reads' HO_11.out).2.2 t361 p373 q373
             cases e373
             replace p373 := eq_true p373
             replace q373 := eq_true q373
             go_wp2
             go_loopg [13] kj20 (fun kq v13 w' => ∃ (x13_3 : Int), v13 = .int .i64 x13_3 ∧ Aside0 (stickfullaw26_EllipsisPlain.l1 kq l0 t361 t362 t363 t368 x13_3 a1_0 a1_1 = some r) ∧ Aside0 (kq ≤ kj20) ∧ Aside0 (Kd.R (Kd.int .i64) 2 w' w.heap.size (fun _ => True) (.slice (some ad373) t368.length co43) t368) ∧ Aside0 (w'.heap[gb355]? = some (.cells #[.int .i64 a1_0, .int .i64 a1_1] 29 (0, 0))) ∧ Aside0 (Below w.heap.size w w'))
             case atStart => exact ⟨(wrap64 (t361 + 1)), (by first | rfl | (simp; done) | (simp [*]; done)), H', ⟨Nat.le_refl _⟩, ⟨by (with_reducible repeat (first | apply Kd.R_alloc | apply Kd.R_drewN | apply Kd.R_drew)); exact HO_11.out⟩, ⟨by (with_reducible repeat (first | refine blk_drewN ?_ _ | refine blk_drew ?_ | refine blk_alloc ?_ _)); exact BK355.out⟩, ⟨by repeat (first | (with_reducible first | exact HB.out | apply below_alloc | apply pw_below_drewN | apply below_drew1 | refine below_set ?_ GE355.out) | exact HB.out)⟩⟩
             case round =>
              clear H'
              try clear c1
              try clear p1
              try clear q1
              try clear hx1
              try clear c2
              try clear p2
              try clear c3
              try clear c3b0
              try clear c3b1
              try clear p3
              try clear q3
              try clear hx3
              try clear c4
              try clear c6
              try clear p6
              try clear c7
              try clear c7b0
              try clear c7b1
              try clear c8
              try clear c8b0
              try clear c8b1
              try clear c9
              try clear c10
              try clear c12
              try clear c12b0
              try clear c13
              try clear c13b0
              try clear c14
              try clear c14b0
              try clear p15
              try clear q15
              try clear hx15
              try clear hf15
              try clear c18
              try clear c19
              try clear c29
              try clear c29b0
              try clear c29b1
              try clear c30
              try clear c30b0
              try clear c30b1
              try clear c31
              try clear c31b0
              try clear c31b1
              try clear c32
              try clear c32b0
              try clear c36
              try clear c37
              try clear c37b0
              try clear c37b1
              try clear p37
              try clear q37
              try clear hx37
              try clear c40
              try clear c40b0
              try clear c41
              try clear c41b0
              try clear c42
              try clear c42b0
              try clear c42b1
              try clear hcz22_0
              try clear hcz22_1
              try clear hfz22_0
              try clear hfz22_1
              try clear hx15_0
              try clear hx373_0
              try clear p1
              try clear p15
              try clear p2
              try clear p373
              try clear p6
              try clear q1
              try clear q15
              try clear q373
              obtain ⟨x13_3, rfl, HA, HK3, HO_11, BK355, HB⟩ := hrel
              cases gk with
              | zero => exact absurd HA.out (by simp [stickfullaw26_EllipsisPlain.l1])
              | succ k3 =>
               have H := HA.out
               clear HA
               simp only [stickfullaw26_EllipsisPlain.l1] at H
               have HC44 := Aside0.mk H
               clear H
               go_upto_region 15 with (fail)
               go_cut [94] (fun v94 wc => ∃ (kq : Nat) (x94_43 : Bool), v94 = .bool x94_43 ∧ Aside0 (stickfullaw26_EllipsisPlain.j3 kq l0 t361 t362 t363 t368 x13_3 x94_43 a1_0 a1_1 = some r) ∧ Aside0 (kq ≤ k3) ∧ Aside0 (Kd.R (Kd.int .i64) 2 wc w.heap.size (fun _ => True) (.slice (some ad373) t368.length co43) t368) ∧ Aside0 (wc.heap[gb355]? = some (.cells #[.int .i64 a1_0, .int .i64 a1_1] 29 (0, 0))) ∧ Aside0 (Below w.heap.size w wc))
               case first =>
                have H := HC44.out
                clear HC44
                by_cases c45 : x13_3 ≤ (l0.length : Int)
                ·rw [if_pos c45] at H
                 have c45b0 : decide (x13_3 ≤ (l0.length : Int)) = true := decide_eq_true c45
                 clear c45
                 (first | rw [c45b0] | (simp only [i64_w, i32_w]; rw [c45b0]) | skip)
                 have H' := Aside0.mk H
                 clear H
                 go_wp2
                 go_meet
                 case rel => exact ⟨_, (t363), (by first | rfl | (simp; done) | (simp [*]; done)), H', ⟨by have := HK1.out; have := HJ20.out; have := HK3.out; first | omega | exact Nat.le_refl _⟩, ⟨by (with_reducible repeat (first | apply Kd.R_alloc | apply Kd.R_drewN | apply Kd.R_drew)); exact HO_11.out⟩, ⟨by (with_reducible repeat (first | refine blk_drewN ?_ _ | refine blk_drew ?_ | refine blk_alloc ?_ _)); exact BK355.out⟩, ⟨by repeat (first | (with_reducible first | exact HB.out | apply below_alloc | apply pw_below_drewN | apply below_drew1 | refine below_set ?_ GE355.out) | exact HB.out)⟩⟩
                ·rw [if_neg c45] at H
                 have c45b0 : decide (x13_3 ≤ (l0.length : Int)) = false := decide_eq_false c45
                 clear c45
                 (first | rw [c45b0] | (simp only [i64_w, i32_w]; rw [c45b0]) | skip)
                 have H' := Aside0.mk H
                 clear H
                 go_wp2
                 go_meet
                 case rel => exact ⟨_, (false), (by first | rfl | (simp; done) | (simp [*]; done)), H', ⟨by have := HK1.out; have := HJ20.out; have := HK3.out; first | omega | exact Nat.le_refl _⟩, ⟨by (with_reducible repeat (first | apply Kd.R_alloc | apply Kd.R_drewN | apply Kd.R_drew)); exact HO_11.out⟩, ⟨by (with_reducible repeat (first | refine blk_drewN ?_ _ | refine blk_drew ?_ | refine blk_alloc ?_ _)); exact BK355.out⟩, ⟨by repeat (first | (with_reducible first | exact HB.out | apply below_alloc | apply pw_below_drewN | apply below_drew1 | refine below_set ?_ GE355.out) | exact HB.out)⟩⟩
               case rest =>
                clear HC44
                try clear c1
                try clear p1
                try clear q1
                try clear hx1
                try clear c2
                try clear p2
                try clear c3
                try clear c3b0
                try clear c3b1
                try clear p3
                try clear q3
                try clear hx3
                try clear c4
                try clear c6
                try clear p6
                try clear c7
                try clear c7b0
                try clear c7b1
                try clear c8
                try clear c8b0
                try clear c8b1
                try clear c9
                try clear c10
                try clear c12
                try clear c12b0
                try clear c13
                try clear c13b0
                try clear c14
                try clear c14b0
                try clear p15
                try clear q15
                try clear hx15
                try clear hf15
                try clear c18
                try clear c19
                try clear c29
                try clear c29b0
                try clear c29b1
                try clear c30
                try clear c30b0
                try clear c30b1
                try clear c31
                try clear c31b0
                try clear c31b1
                try clear c32
                try clear c32b0
                try clear c36
                try clear c37
                try clear c37b0
                try clear c37b1
                try clear p37
                try clear q37
                try clear hx37
                try clear c40
                try clear c40b0
                try clear c41
                try clear c41b0
                try clear c42
                try clear c42b0
                try clear c42b1
                try clear c45
                try clear c45b0
                try clear hcz22_0
                try clear hcz22_1
                try clear hfz22_0
                try clear hfz22_1
                try clear hx15_0
                try clear hx373_0
                try clear p1
                try clear p15
                try clear p2
                try clear p3
                try clear p37
                try clear p373
                try clear p6
                try clear q1
                try clear q15
                try clear q3
                try clear q37
                try clear q373
                obtain ⟨kq, x94_43, rfl, HA, HJ43, HO_11, BK355, HB⟩ := hcut
                cases kq with
                | zero => exact absurd HA.out (by simp [stickfullaw26_EllipsisPlain.j3])
                | succ kj43 =>
                 have H := HA.out
                 clear HA
                 simp only [stickfullaw26_EllipsisPlain.j3] at H
                 by_cases c46 : x94_43 = true
                 ·subst c46
                  have H1 : (if 0 ≤ x13_3 then (if x13_3 < (t368.length : Int) then (if (rd t368 x13_3) ≤ a1_0 then (some false) else (stickfullaw26_EllipsisPlain.l1 kj43 l0 t361 t362 t363 t368 (wrap64 (x13_3 + 1)) a1_0 a1_1)) else (none)) else (none)) = some r := by rw [if_pos rfl] at H; exact H
                  clear H
                  have H := H1
                  clear H1
                  by_cases c47 : 0 ≤ x13_3
                  ·rw [if_pos c47] at H
                   have c47b0 : decide (0 ≤ x13_3) = true := decide_eq_true c47
                   clear c47
                   by_cases c48 : x13_3 < (t368.length : Int)
                   ·rw [if_pos c48] at H
                    have c48b0 : decide (x13_3 < (t368.length : Int)) = true := decide_eq_true c48
                    clear c48
                    by_cases c49 : (rd t368 x13_3) ≤ a1_0
                    ·rw [if_pos c49] at H
                     have c49b0 : decide ((rd t368 x13_3) ≤ a1_0) = true := decide_eq_true c49
                     clear c49
                     exact absurd ((Option.some.inj H).trans HR_.out) (by decide)
                    ·rw [if_neg c49] at H
                     have c49b0 : decide ((rd t368 x13_3) ≤ a1_0) = false := decide_eq_false c49
                     clear c49
                     have H' := Aside0.mk H
                     clear H
                     try go_wp2
                     replace HO_11 := Aside0.mk (Kd.R_drew HO_11.out)
                     replace BK355 := Aside0.mk (blk_drew BK355.out)
                     replace HB := Aside0.mk (below_drew1 HB.out)
                     have p374 : 0 ≤ (x13_3 : Int) := of_decide_eq_true (by first | (with_reducible assumption) | assumption)
                     have q374 : x13_3 < (t368.length : Int) := of_decide_eq_true (by first | (with_reducible assumption) | assumption)
                     obtain ⟨ad374, e374, hx374_0⟩ := Kd.at_int (Kd.R_reads' HO_11.out).2.2 x13_3 p374 q374
                     obtain rfl : ad373 = ad374 := (by injection e374)
                     replace p374 := eq_true p374
                     replace q374 := eq_true q374
                     refine start_ (n := 7) (S := fun w' => w'.cell? ⟨gb355, 0, none⟩ = some (.int .i64 a1_0) ∧ w'.cell? ⟨gb355, 1, none⟩ = some (.int .i64 a1_1) ∧ w'.cell? (ad373.add (x13_3).toNat) = some (.int .i64 (rd t368 x13_3))) (ds := []) (stickfullaw26_EllipsisPlain.bm 7 0) (by kernel_rfl) rfl rfl ⟨bc BK355 0, bc BK355 1, hx374_0⟩ (fun hHeld => ?_)
                     generalize wc.drew = w50 at HO_11 BK355 HB hx374_0 hHeld ⊢
                     refine pure_ (i := 0) (N := some 97) (v := ?_) (a' := ?_) (stickfullaw26_EllipsisPlain.bm 7 1) rfl rfl (by kernel_rfl) (fun _ _ _ h => h) (Or.inl ⟨by rfl, ?_⟩) ?_ ?_
                     rotate_left; (focus intro w'; go_simp; with_reducible rfl); rotate_left; (focus simp only [Act.put, List.setIfInBounds_toArray, List.set_cons_zero, List.set_cons_succ, i64_w, i32_w]; rfl)
                     refine pure_ (i := 1) (N := some 98) (v := ?_) (a' := ?_) (stickfullaw26_EllipsisPlain.bm 7 3) rfl rfl (by kernel_rfl) (fun _ _ _ h => h) (Or.inl ⟨by rfl, ?_⟩) ?_ ?_
                     rotate_left; (focus intro w'; go_simp; with_reducible rfl); rotate_left; (focus simp only [Act.put, List.setIfInBounds_toArray, List.set_cons_zero, List.set_cons_succ, i64_w, i32_w]; rfl)
                     refine pure_ (i := 2) (N := some 99) (v := ?_) (a' := ?_) (stickfullaw26_EllipsisPlain.bm 7 7) rfl rfl (by kernel_rfl) (fun _ _ _ h => h) (Or.inl ⟨by rfl, ?_⟩) ?_ ?_
                     rotate_left; (focus intro w'; go_simp; with_reducible rfl); rotate_left; (focus simp only [Act.put, List.setIfInBounds_toArray, List.set_cons_zero, List.set_cons_succ, i64_w, i32_w]; rfl)
                     refine pure_ (i := 4) (N := some 101) (v := ?_) (a' := ?_) (stickfullaw26_EllipsisPlain.bm 7 23) rfl rfl (by kernel_rfl) (fun _ _ _ h => h) (Or.inl ⟨by rfl, ?_⟩) ?_ ?_
                     rotate_left; (focus intro w'; go_simp; with_reducible rfl); rotate_left; (focus simp only [Act.put, List.setIfInBounds_toArray, List.set_cons_zero, List.set_cons_succ, i64_w, i32_w]; rfl)
                     refine take_ (i := 3) (N := some 100) (v := ?_) (a' := ?_) (stickfullaw26_EllipsisPlain.bm 7 31) rfl rfl (by kernel_rfl) (fun _ _ _ h => h) (Or.inl ⟨by rfl, ?_⟩) hHeld ?_ ?_
                     rotate_left; (focus rintro w' ⟨s0, s1, s2⟩; go_simp; with_reducible rfl); rotate_left; (focus simp only [Act.put, List.setIfInBounds_toArray, List.set_cons_zero, List.set_cons_succ, i64_w, i32_w]; rfl)
                     refine take_ (i := 5) (N := some 102) (v := ?_) (a' := ?_) (stickfullaw26_EllipsisPlain.bm 7 63) rfl rfl (by kernel_rfl) (fun _ _ _ h => h) (Or.inl ⟨by rfl, ?_⟩) hHeld ?_ ?_
                     rotate_left; (focus rintro w' ⟨s0, s1, s2⟩; go_simp; with_reducible rfl); rotate_left; (focus simp only [Act.put, List.setIfInBounds_toArray, List.set_cons_zero, List.set_cons_succ, i64_w, i32_w]; rfl)
                     refine pure_ (i := 6) (N := some 103) (v := ?_) (a' := ?_) (stickfullaw26_EllipsisPlain.bm 7 127) rfl rfl (by kernel_rfl) (fun _ _ _ h => h) (Or.inl ⟨by rfl, ?_⟩) ?_ ?_
                     rotate_left; (focus intro w'; go_simp; with_reducible rfl); rotate_left; (focus simp only [Act.put, List.setIfInBounds_toArray, List.set_cons_zero, List.set_cons_succ, i64_w, i32_w]; rfl)
                     refine done_ (by kernel_rfl) ?_
                     try go_wp2
                     go_roundg kj43
                     case measure => have := HK1.out; have := HJ20.out; have := HK3.out; have := HJ43.out; omega
                     case rel => exact ⟨(wrap64 (x13_3 + 1)), (by first | rfl | (simp; done) | (simp [*]; done)), H', ⟨by have := HK1.out; have := HJ20.out; have := HK3.out; have := HJ43.out; omega⟩, ⟨by (with_reducible repeat (first | apply Kd.R_alloc | apply Kd.R_drewN | apply Kd.R_drew)); exact HO_11.out⟩, ⟨by (with_reducible repeat (first | refine blk_drewN ?_ _ | refine blk_drew ?_ | refine blk_alloc ?_ _)); exact BK355.out⟩, ⟨by repeat (first | (with_reducible first | exact HB.out | apply below_alloc | apply pw_below_drewN | apply below_drew1 | refine below_set ?_ GE355.out) | exact HB.out)⟩⟩
                   ·rw [if_neg c48] at H
                    exact absurd H (by simp)
                  ·rw [if_neg c47] at H
                   exact absurd H (by simp)
                 ·replace c46 := Bool.eq_false_iff.mpr c46
                  subst c46
                  have H1 : (if t363 = true then (if t362 ≤ a1_0 then ((stickfullaw26_head.f kj43).bind fun t375 => (some t375)) else (if t361 = 0 then ((stickfullaw26_head.f kj43).bind fun t376 => (some t376)) else (some false))) else (if t361 = (l0.length : Int) then ((stickfullaw26_head.f kj43).bind fun t377 => (some t377)) else (some false))) = some r := by rw [if_neg (show ¬ (false = true) by decide)] at H; exact H
                  clear H
                  have H := H1
                  clear H1
                  by_cases c51 : t363 = true
                  ·subst c51
                   have H1 : (if t362 ≤ a1_0 then ((stickfullaw26_head.f kj43).bind fun t375 => (some t375)) else (if t361 = 0 then ((stickfullaw26_head.f kj43).bind fun t376 => (some t376)) else (some false))) = some r := by rw [if_pos rfl] at H; exact H
                   clear H
                   have H := H1
                   clear H1
                   by_cases c52 : t362 ≤ a1_0
                   ·rw [if_pos c52] at H
                    have c52b0 : decide (t362 ≤ a1_0) = true := decide_eq_true c52
                    clear c52
                    replace H := Option.bind_eq_some_iff.mp H
                    obtain ⟨t375, A530, H⟩ := H
                    replace H : (some t375) = some r := H
                    have A53 := Aside0.mk A530
                    clear A530
                    obtain rfl := Option.some.inj H
                    obtain ⟨hcz54_0, hcz54_1⟩ := cz2 BK355
                    obtain ⟨hfz54_0, hfz54_1⟩ := fz2 BK355
                    go_wp2_with (first | (go_at_call 9; (with_reducible refine (stickfullaw26_head.calls kj43  t375 _ A53.out).mono ?_); rintro e w55 ⟨rfl, hb⟩; replace HO_11 := Aside0.mk (Kd.R_below (rx HO_11) hb); replace BK355 := bb BK355 hb; replace HB := bh HB hb; (try clear hb); (try clear hb2); (try clear hk); (try clear hi)))
                    go_ret
                    exact ⟨by first | rfl | (simp [errW_none, errW_some] <;> rfl) | (simp [*, errW_none, errW_some] <;> rfl), by repeat (first | (with_reducible first | exact HB.out | apply below_alloc | apply pw_below_drewN | apply below_drew1 | refine below_set ?_ GE355.out) | exact HB.out)⟩
                   ·rw [if_neg c52] at H
                    have c52b0 : decide (t362 ≤ a1_0) = false := decide_eq_false c52
                    clear c52
                    by_cases c56 : t361 = 0
                    ·rw [if_pos c56] at H
                     have c56b0 : (t361 == 0) = true := beq_iff_eq.mpr c56
                     have c56b1 : (t361 != 0) = false := bne_eq_false_iff_eq.mpr c56
                     clear c56
                     replace H := Option.bind_eq_some_iff.mp H
                     obtain ⟨t376, A570, H⟩ := H
                     replace H : (some t376) = some r := H
                     have A57 := Aside0.mk A570
                     clear A570
                     obtain rfl := Option.some.inj H
                     obtain ⟨hcz58_0, hcz58_1⟩ := cz2 BK355
                     obtain ⟨hfz58_0, hfz58_1⟩ := fz2 BK355
                     go_wp2_with (first | (go_at_call 9; (with_reducible refine (stickfullaw26_head.calls kj43  t376 _ A57.out).mono ?_); rintro e w59 ⟨rfl, hb⟩; replace HO_11 := Aside0.mk (Kd.R_below (rx HO_11) hb); replace BK355 := bb BK355 hb; replace HB := bh HB hb; (try clear hb); (try clear hb2); (try clear hk); (try clear hi)))
                     go_ret
                     exact ⟨by first | rfl | (simp [errW_none, errW_some] <;> rfl) | (simp [*, errW_none, errW_some] <;> rfl), by repeat (first | (with_reducible first | exact HB.out | apply below_alloc | apply pw_below_drewN | apply below_drew1 | refine below_set ?_ GE355.out) | exact HB.out)⟩
                    ·rw [if_neg c56] at H
                     have c56b0 : (t361 == 0) = false := beq_eq_false_iff_ne.mpr c56
                     have c56b1 : (t361 != 0) = true := bne_iff_ne.mpr c56
                     exact absurd ((Option.some.inj H).trans HR_.out) (by decide)
                  ·replace c51 := Bool.eq_false_iff.mpr c51
                   subst c51
                   have H1 : (if t361 = (l0.length : Int) then ((stickfullaw26_head.f kj43).bind fun t377 => (some t377)) else (some false)) = some r := by rw [if_neg (show ¬ (false = true) by decide)] at H; exact H
                   clear H
                   have H := H1
                   clear H1
                   by_cases c60 : t361 = (l0.length : Int)
                   ·rw [if_pos c60] at H
                    have c60b0 : (t361 == (l0.length : Int)) = true := beq_iff_eq.mpr c60
                    have c60b1 : (t361 != (l0.length : Int)) = false := bne_eq_false_iff_eq.mpr c60
                    clear c60
                    replace H := Option.bind_eq_some_iff.mp H
                    obtain ⟨t377, A610, H⟩ := H
                    replace H : (some t377) = some r := H
                    have A61 := Aside0.mk A610
                    clear A610
                    obtain rfl := Option.some.inj H
                    go_wp2_with (first | (go_at_call 9; (with_reducible refine (stickfullaw26_head.calls kj43  t377 _ A61.out).mono ?_); rintro e w62 ⟨rfl, hb⟩; replace HO_11 := Aside0.mk (Kd.R_below (rx HO_11) hb); replace BK355 := bb BK355 hb; replace HB := bh HB hb; (try clear hb); (try clear hb2); (try clear hk); (try clear hi)))
                    go_ret
                    exact ⟨by first | rfl | (simp [errW_none, errW_some] <;> rfl) | (simp [*, errW_none, errW_some] <;> rfl), by repeat (first | (with_reducible first | exact HB.out | apply below_alloc | apply pw_below_drewN | apply below_drew1 | refine below_set ?_ GE355.out) | exact HB.out)⟩
                   ·rw [if_neg c60] at H
                    have c60b0 : (t361 == (l0.length : Int)) = false := beq_eq_false_iff_ne.mpr c60
                    have c60b1 : (t361 != (l0.length : Int)) = true := bne_iff_ne.mpr c60
                    exact absurd ((Option.some.inj H).trans HR_.out) (by decide)
            ·rw [if_neg c42] at H
             have c42b0 : (t362 == (rd t368 t361)) = false := beq_eq_false_iff_ne.mpr c42
             have c42b1 : (t362 != (rd t368 t361)) = true := bne_iff_ne.mpr c42
             exact absurd ((Option.some.inj H).trans HR_.out) (by decide)
           ·rw [if_neg c41] at H
            exact absurd H (by simp)
          ·rw [if_neg c40] at H
           exact absurd H (by simp)
   ·rw [if_neg c8] at H
    exact absurd H (by simp)
  ·rw [if_neg c7] at H
   exact absurd H (by simp)

end Go.Proofs.Ytkaiibipcnlaiaa.HEll
