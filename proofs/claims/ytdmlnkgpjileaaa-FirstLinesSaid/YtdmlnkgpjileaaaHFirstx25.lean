-- Written by this claim's own program over the kit's print.
import Derived.Test.YtdmlnkgpjileaaaM3
import Derived.Test.YtdmlnkgpjileaaaHFirstx24
namespace Go.Proofs.Ytdmlnkgpjileaaa.HFirst
open Go.RowKit Go.Proofs.YtdmlnkgpjileaaaW.PrintWords Go.Proofs.YtdmlnkgpjileaaaW.PrintLast Go.Proofs.YtdmlnkgpjileaaaW.PrintMore Go.Proofs.Ytdmlnkgpjileaaa.Hand
attribute [local go_sem] max2_int min2_int max_two min_two max_three min_three max_four min_four   -- for this text's walks alone
set_option linter.unusedVariables false
set_option linter.unusedSimpArgs false

/-! ### stickfulref12_Step: function 72 -/
def stickfulref12_Step.j0 : Nat → Int → Bool → Int → Int → Int → Int → Bool → Bool → Option (Int × Int)
 | 0, _, _, _, _, _, _, _, _ => none
 | k + 1, x1, x13, x290000, x290001, x290002, x290003, x290004, x290005 => if x13 = true then (some (0, 2)) else (if x290000 = 4 then ((stickfulref12_fits.f x1).bind fun t295 => (if t295 = true then (if x290003 = 0 then (some (x1, 0)) else ((stickfulref01_Stop.f k x1 x290003).bind fun bt296 => (some (bt296.1, bt296.2)))) else (some (0, 10)))) else ((stickfulref01_Sum.f k (([x1, x290003] : List Int))).bind fun bt293 => (some (bt293.1, bt293.2))))
def stickfulref12_Step.f (k : Nat) (a0_0 a0_1 a0_2 a0_3 : Int) (a0_4 a0_5 : Bool) (a1 : Int) : Option (Int × Int) := if a0_0 = 4 then (stickfulref12_Step.j0 k a1 (decide (a0_3 < 0)) a0_0 a0_1 a0_2 a0_3 a0_4 a0_5) else (stickfulref12_Step.j0 k a1 false a0_0 a0_1 a0_2 a0_3 a0_4 a0_5)
theorem stickfulref12_Step.mono_l : ∀ k, (∀ y0 y1 y2 y3 y4 y5 y6 y7, LeO (stickfulref12_Step.j0 k y0 y1 y2 y3 y4 y5 y6 y7) (stickfulref12_Step.j0 (k + 1) y0 y1 y2 y3 y4 y5 y6 y7))
 | 0 => fun _ _ _ _ _ _ _ _ r h => by simp [stickfulref12_Step.j0] at h
 | k + 1 => by
  have ih0 := stickfulref12_Step.mono_l k
  ·intro y0 y1 y2 y3 y4 y5 y6 y7
   unfold stickfulref12_Step.j0
   repeat' first
   | (with_reducible exact ih0 _ _ _ _ _ _ _ _)
   | (with_reducible exact stickfulref01_Stop.mono _ _ _)
   | (with_reducible exact stickfulref01_Sum.mono _ _)
   | (with_reducible exact LeO.refl _)
   | (with_reducible exact LeO.none _)
   | (with_reducible refine LeO.ite ?_ ?_)
   | (with_reducible refine LeO.bind ?_ (fun _ => ?_))
   | exact ih0 _ _ _ _ _ _ _ _
   | exact stickfulref01_Stop.mono _ _ _
   | exact stickfulref01_Sum.mono _ _
   | exact LeO.none _
   | refine LeO.ite ?_ ?_
   | refine LeO.bind ?_ (fun _ => ?_)
theorem stickfulref12_Step.mono : ∀ a0 a1 a2 a3 a4 a5 a6 k, LeO (stickfulref12_Step.f k a0 a1 a2 a3 a4 a5 a6) (stickfulref12_Step.f (k + 1) a0 a1 a2 a3 a4 a5 a6) := by
 intro a0 a1 a2 a3 a4 a5 a6 k
 have ih0 := stickfulref12_Step.mono_l k
 unfold stickfulref12_Step.f
 repeat' first
   | (with_reducible exact ih0 _ _ _ _ _ _ _ _)
   | (with_reducible exact stickfulref01_Stop.mono _ _ _)
   | (with_reducible exact stickfulref01_Sum.mono _ _)
   | (with_reducible exact LeO.refl _)
   | (with_reducible exact LeO.none _)
   | (with_reducible refine LeO.ite ?_ ?_)
   | (with_reducible refine LeO.bind ?_ (fun _ => ?_))
   | exact ih0 _ _ _ _ _ _ _ _
   | exact stickfulref01_Stop.mono _ _ _
   | exact stickfulref01_Sum.mono _ _
   | exact LeO.none _
   | refine LeO.ite ?_ ?_
   | refine LeO.bind ?_ (fun _ => ?_)
set_option maxHeartbeats 8000000 in
set_option maxRecDepth 100000 in
theorem stickfulref12_Step.calls (k : Nat) (a0_0 a0_1 a0_2 a0_3 : Int) (a0_4 a0_5 : Bool) (a1 r1 r2 : Int) (w : World) (h : stickfulref12_Step.f k a0_0 a0_1 a0_2 a0_3 a0_4 a0_5 a1 = some (r1, r2)) :
  Calls Try.prog 72 #[.agg #[.int .u8 a0_0, .int .i64 a0_1, .int .i64 a0_2, .int .i64 a0_3, .bool a0_4, .bool a0_5], .int .i64 a1] w fun e w' => e = .returned (.tuple #[.int .i64 r1, .int .i64 r2]) ∧ Below w.heap.size w w' := by
 have hu46 := Try.underlying46
 have HB := Aside0.mk (Below.refl w.heap.size w)
 have H : (if a0_0 = 4 then (stickfulref12_Step.j0 k a1 (decide (a0_3 < 0)) a0_0 a0_1 a0_2 a0_3 a0_4 a0_5) else (stickfulref12_Step.j0 k a1 false a0_0 a0_1 a0_2 a0_3 a0_4 a0_5)) = some (r1, r2) := h
 clear h
 have HC3 := Aside0.mk H
 clear H
 go_enter Try.func72, Try.ntmps72
 go_upto_region 1 with (first | ((with_reducible refine gate_dst (N := 2) rfl ?_); refine box_event ?hg (N := 2) ?hd (cs := #[.int .u8 a0_0, .int .i64 a0_1, .int .i64 a0_2, .int .i64 a0_3, .bool a0_4, .bool a0_5]) (t := 46) ?hr ?_; (case hd => rfl); (case hg => rfl); (case hr => first | (go_simp; done) | (go_simp; rfl)); intro gb289 hg w4 hbox hb; have BK289 := Aside0.mk (hbox); have GW289 := bge HB hg; have GE289 := bge HB hg; replace HB := bh HB hb; clear hb hbox hg))
 (try simp only [Act.put, List.setIfInBounds_toArray, List.set_cons_zero, List.set_cons_succ])
 go_cut [13] (fun v13 wc => ∃ (kq : Nat) (x13_2 : Bool), v13 = .bool x13_2 ∧ Aside0 (stickfulref12_Step.j0 kq a1 x13_2 a0_0 a0_1 a0_2 a0_3 a0_4 a0_5 = some (r1, r2)) ∧ Aside0 (kq ≤ k) ∧ Aside0 (wc.heap[gb289]? = some (.cells #[.int .u8 a0_0, .int .i64 a0_1, .int .i64 a0_2, .int .i64 a0_3, .bool a0_4, .bool a0_5] 46 (0, 0))) ∧ Aside0 (Below w.heap.size w wc))
 case first =>
  have H := HC3.out
  clear HC3
  by_cases c5 : a0_0 = 4
  ·rw [if_pos c5] at H
   have c5b0 : (a0_0 == 4) = true := beq_iff_eq.mpr c5
   have c5b1 : (a0_0 != 4) = false := bne_eq_false_iff_eq.mpr c5
   clear c5
   (first | rw [c5b0] | (simp only [i64_w, i32_w]; rw [c5b0]) | skip)
   have H' := Aside0.mk H
   clear H
   obtain ⟨hcz6_0, hcz6_1, hcz6_2, hcz6_3, hcz6_4, hcz6_5⟩ := cz6 BK289
   obtain ⟨hfz6_0, hfz6_1, hfz6_2, hfz6_3, hfz6_4, hfz6_5⟩ := fz6 BK289
   go_wp2
   go_meet
   case rel => exact ⟨_, (decide (a0_3 < 0)), (by first | rfl | (simp; done) | (simp [*]; done)), H', ⟨by first | omega | exact Nat.le_refl _⟩, ⟨by (with_reducible repeat (first | refine blk_drewN ?_ _ | refine blk_drew ?_ | refine blk_alloc ?_ _)); exact BK289.out⟩, ⟨by repeat (first | (with_reducible first | exact HB.out | apply below_alloc | apply pw_below_drewN | apply below_drew1 | refine below_set ?_ GE289.out) | exact HB.out)⟩⟩
  ·rw [if_neg c5] at H
   have c5b0 : (a0_0 == 4) = false := beq_eq_false_iff_ne.mpr c5
   have c5b1 : (a0_0 != 4) = true := bne_iff_ne.mpr c5
   (first | rw [c5b0] | (simp only [i64_w, i32_w]; rw [c5b0]) | skip)
   have H' := Aside0.mk H
   clear H
   obtain ⟨hcz7_0, hcz7_1, hcz7_2, hcz7_3, hcz7_4, hcz7_5⟩ := cz6 BK289
   obtain ⟨hfz7_0, hfz7_1, hfz7_2, hfz7_3, hfz7_4, hfz7_5⟩ := fz6 BK289
   go_wp2
   go_meet
   case rel => exact ⟨_, (false), (by first | rfl | (simp; done) | (simp [*]; done)), H', ⟨by first | omega | exact Nat.le_refl _⟩, ⟨by (with_reducible repeat (first | refine blk_drewN ?_ _ | refine blk_drew ?_ | refine blk_alloc ?_ _)); exact BK289.out⟩, ⟨by repeat (first | (with_reducible first | exact HB.out | apply below_alloc | apply pw_below_drewN | apply below_drew1 | refine below_set ?_ GE289.out) | exact HB.out)⟩⟩
 case rest =>
  clear HC3
  try clear p2
  try clear c5
  try clear c5b0
  try clear c5b1
  try clear c7
  try clear hcz6_0
  try clear hcz6_1
  try clear hcz6_2
  try clear hcz6_3
  try clear hcz6_4
  try clear hcz6_5
  try clear hcz7_0
  try clear hcz7_1
  try clear hcz7_2
  try clear hcz7_3
  try clear hcz7_4
  try clear hcz7_5
  try clear hfz6_0
  try clear hfz6_1
  try clear hfz6_2
  try clear hfz6_3
  try clear hfz6_4
  try clear hfz6_5
  try clear hfz7_0
  try clear hfz7_1
  try clear hfz7_2
  try clear hfz7_3
  try clear hfz7_4
  try clear hfz7_5
  obtain ⟨kq, x13_2, rfl, HA, HJ2, BK289, HB⟩ := hcut
  cases kq with
  | zero => exact absurd HA.out (by simp [stickfulref12_Step.j0])
  | succ kj2 =>
   have H := HA.out
   clear HA
   simp only [stickfulref12_Step.j0] at H
   by_cases c8 : x13_2 = true
   ·subst c8
    have H1 : (some (0, 2)) = some (r1, r2) := by rw [if_pos rfl] at H; exact H
    clear H
    have H := H1
    clear H1
    simp only [Option.some.injEq, Prod.mk.injEq] at H
    obtain ⟨rfl, rfl⟩ := H
    go_wp2
    go_ret2
    exact ⟨by first | rfl | (simp [errW_none, errW_some] <;> rfl) | (simp [*, errW_none, errW_some] <;> rfl), by repeat (first | (with_reducible first | exact HB.out | apply below_alloc | apply pw_below_drewN | apply below_drew1 | refine below_set ?_ GE289.out) | exact HB.out)⟩
   ·replace c8 := Bool.eq_false_iff.mpr c8
    subst c8
    have H1 : (if a0_0 = 4 then ((stickfulref12_fits.f a1).bind fun t295 => (if t295 = true then (if a0_3 = 0 then (some (a1, 0)) else ((stickfulref01_Stop.f kj2 a1 a0_3).bind fun bt296 => (some (bt296.1, bt296.2)))) else (some (0, 10)))) else ((stickfulref01_Sum.f kj2 (([a1, a0_3] : List Int))).bind fun bt293 => (some (bt293.1, bt293.2)))) = some (r1, r2) := by rw [if_neg (show ¬ (false = true) by decide)] at H; exact H
    clear H
    have H := H1
    clear H1
    by_cases c9 : a0_0 = 4
    ·rw [if_pos c9] at H
     have c9b0 : (a0_0 == 4) = true := beq_iff_eq.mpr c9
     have c9b1 : (a0_0 != 4) = false := bne_eq_false_iff_eq.mpr c9
     clear c9
     replace H := Option.bind_eq_some_iff.mp H
     obtain ⟨t295, A100, H⟩ := H
     replace H : (if t295 = true then (if a0_3 = 0 then (some (a1, 0)) else ((stickfulref01_Stop.f kj2 a1 a0_3).bind fun bt296 => (some (bt296.1, bt296.2)))) else (some (0, 10))) = some (r1, r2) := H
     have A10 := Aside0.mk A100
     clear A100
     by_cases c11 : t295 = true
     ·subst c11
      have H1 : (if a0_3 = 0 then (some (a1, 0)) else ((stickfulref01_Stop.f kj2 a1 a0_3).bind fun bt296 => (some (bt296.1, bt296.2)))) = some (r1, r2) := by rw [if_pos rfl] at H; exact H
      clear H
      have H := H1
      clear H1
      by_cases c12 : a0_3 = 0
      ·rw [if_pos c12] at H
       have c12b0 : (a0_3 == 0) = true := beq_iff_eq.mpr c12
       have c12b1 : (a0_3 != 0) = false := bne_eq_false_iff_eq.mpr c12
       clear c12
       simp only [Option.some.injEq, Prod.mk.injEq] at H
       obtain ⟨rfl, rfl⟩ := H
       obtain ⟨hcz13_0, hcz13_1, hcz13_2, hcz13_3, hcz13_4, hcz13_5⟩ := cz6 BK289
       obtain ⟨hfz13_0, hfz13_1, hfz13_2, hfz13_3, hfz13_4, hfz13_5⟩ := fz6 BK289
       go_wp2_with (first | ((with_reducible refine gate_callee (f := 71) rfl ?_); refine goesB (some 25) rfl rfl Try.func71 #[.int .i64 a1] rfl ?_; (with_reducible refine (stickfulref12_fits.calls a1 true _ A10.out).mono ?_); rintro e w' ⟨rfl, ⟨nd, rfl⟩⟩; refine ⟨_, rfl, ?_⟩))
       go_ret2
       exact ⟨by first | rfl | (simp [errW_none, errW_some] <;> rfl) | (simp [*, errW_none, errW_some] <;> rfl), by repeat (first | (with_reducible first | exact HB.out | apply below_alloc | apply pw_below_drewN | apply below_drew1 | refine below_set ?_ GE289.out) | exact HB.out)⟩
      ·rw [if_neg c12] at H
       have c12b0 : (a0_3 == 0) = false := beq_eq_false_iff_ne.mpr c12
       have c12b1 : (a0_3 != 0) = true := bne_iff_ne.mpr c12
       replace H := Option.bind_eq_some_iff.mp H
       obtain ⟨⟨t296, t297⟩, A140, H⟩ := H
       replace H : (some (t296, t297)) = some (r1, r2) := H
       have A14 := Aside0.mk A140
       clear A140
       simp only [Option.some.injEq, Prod.mk.injEq] at H
       obtain ⟨rfl, rfl⟩ := H
       obtain ⟨hcz15_0, hcz15_1, hcz15_2, hcz15_3, hcz15_4, hcz15_5⟩ := cz6 BK289
       obtain ⟨hfz15_0, hfz15_1, hfz15_2, hfz15_3, hfz15_4, hfz15_5⟩ := fz6 BK289
       go_wp2_with (first | ((with_reducible refine gate_callee (f := 71) rfl ?_); refine goesB (some 25) rfl rfl Try.func71 #[.int .i64 a1] rfl ?_; (with_reducible refine (stickfulref12_fits.calls a1 true _ A10.out).mono ?_); rintro e w' ⟨rfl, ⟨nd, rfl⟩⟩; refine ⟨_, rfl, ?_⟩) | ((with_reducible refine gate_callee (f := 74) rfl ?_); refine goesB (some 34) rfl rfl Try.func74 #[.int .i64 a1, .int .i64 a0_3] rfl ?_; (with_reducible refine (stickfulref01_Stop.calls kj2 a1 a0_3 t296 t297 _ A14.out).mono ?_); rintro e w16 ⟨rfl, hb⟩; refine ⟨_, rfl, ?_⟩; replace BK289 := bb BK289 hb; replace HB := bh HB hb; (try clear hb); (try clear hb2); (try clear hk); (try clear hi)))
       go_ret2
       exact ⟨by first | rfl | (simp [errW_none, errW_some] <;> rfl) | (simp [*, errW_none, errW_some] <;> rfl), by repeat (first | (with_reducible first | exact HB.out | apply below_alloc | apply pw_below_drewN | apply below_drew1 | refine below_set ?_ GE289.out) | exact HB.out)⟩
     ·replace c11 := Bool.eq_false_iff.mpr c11
      subst c11
      have H1 : (some (0, 10)) = some (r1, r2) := by rw [if_neg (show ¬ (false = true) by decide)] at H; exact H
      clear H
      have H := H1
      clear H1
      simp only [Option.some.injEq, Prod.mk.injEq] at H
      obtain ⟨rfl, rfl⟩ := H
      obtain ⟨hcz17_0, hcz17_1, hcz17_2, hcz17_3, hcz17_4, hcz17_5⟩ := cz6 BK289
      obtain ⟨hfz17_0, hfz17_1, hfz17_2, hfz17_3, hfz17_4, hfz17_5⟩ := fz6 BK289
      go_wp2_with (first | ((with_reducible refine gate_callee (f := 71) rfl ?_); refine goesB (some 25) rfl rfl Try.func71 #[.int .i64 a1] rfl ?_; (with_reducible refine (stickfulref12_fits.calls a1 false _ A10.out).mono ?_); rintro e w' ⟨rfl, ⟨nd, rfl⟩⟩; refine ⟨_, rfl, ?_⟩))
      go_ret2
      exact ⟨by first | rfl | (simp [errW_none, errW_some] <;> rfl) | (simp [*, errW_none, errW_some] <;> rfl), by repeat (first | (with_reducible first | exact HB.out | apply below_alloc | apply pw_below_drewN | apply below_drew1 | refine below_set ?_ GE289.out) | exact HB.out)⟩
    ·rw [if_neg c9] at H
     have c9b0 : (a0_0 == 4) = false := beq_eq_false_iff_ne.mpr c9
     have c9b1 : (a0_0 != 4) = true := bne_iff_ne.mpr c9
     obtain ⟨y290, hy290⟩ : ∃ y_ : List Int, y_ = (([a1, a0_3] : List Int)) := ⟨_, rfl⟩
     replace H : ((stickfulref01_Sum.f kj2 y290).bind fun bt293 => (some (bt293.1, bt293.2))) = some (r1, r2) := by first | (rw [hy290]; with_reducible exact H) | (have H2_ := (Option.bind_some _ _).symm.trans H; rw [hy290]; with_reducible exact H2_) | (have H2_ := (Option.bind_some _ _).symm.trans H; with_reducible exact H2_) | with_reducible exact H | (rw [hy290]; exact H) | exact H
     have Ny290 := Aside0.mk hy290
     clear hy290
     replace H := Option.bind_eq_some_iff.mp H
     obtain ⟨⟨t293, t294⟩, A180, H⟩ := H
     replace H : (some (t293, t294)) = some (r1, r2) := H
     have A18 := Aside0.mk A180
     clear A180
     simp only [Option.some.injEq, Prod.mk.injEq] at H
     obtain ⟨rfl, rfl⟩ := H
     obtain ⟨hcz19_0, hcz19_1, hcz19_2, hcz19_3, hcz19_4, hcz19_5⟩ := cz6 BK289
     obtain ⟨hfz19_0, hfz19_1, hfz19_2, hfz19_3, hfz19_4, hfz19_5⟩ := fz6 BK289
     go_wp2_with (first | ((with_reducible refine gate_dst (N := 20) rfl ?_); refine Kd.R_lit (Kd.int .i64) _ 2 ?hg (N := 20) ?hd (xs := ([a1, a0_3] : List Int)) (inner := [.int .i64 a1, .int .i64 a0_3]) (ok := fun _ => True) (okp := fun _ => True) ?hr ?hp (fun _ hk => hk) trivial (Below.refl _ _) (Nat.le_refl _) (by simp) ?_; (case hd => rfl); (case hg => rfl); (case hr => first | (go_simp; done) | (go_simp; rfl)); (case hp => exact (Reps.one (show Kd.M (Kd.int .i64) _ _ _ a1 [.int .i64 a1] from rfl) (Reps.one (show Kd.M (Kd.int .i64) _ _ _ a0_3 [.int .i64 a0_3] from rfl) (Reps.none _ _)))); intro v291 w20 ho21 hb hg_ hnew_; clear hg_ hnew_; (first | rw [← Ny290.out] at ho21 | (simp only [Int.reduceToNat] at ho21; rw [← Ny290.out] at ho21)); have HO292 := Aside0.mk (Kd.R_lower ho21 (below_size (bw HB))); replace BK289 := bb BK289 hb; replace HB := bh HB hb; clear hb ho21; obtain ⟨Ao22, co22, eo22⟩ := Kd.R_slice HO292.out; subst eo22) | ((with_reducible refine gate_callee (f := 73) rfl ?_); refine goesB (some 21) rfl rfl Try.func73 #[.slice Ao22 y290.length co22] rfl ?_; (with_reducible refine (stickfulref01_Sum.calls kj2 _ _ y290 t293 t294 _ ?side1 ?side2 A18.out).mono ?_); (case side1 => repeat (first | exact (Kd.R_reads' HO292.out).2.2 | (with_reducible refine Kd.C_alloc ?_ _) | (with_reducible refine Kd.C_drewN ?_ _) | (with_reducible refine Kd.C_drew ?_))); (case side2 => exact (Kd.R_reads' HO292.out).2.1); rintro e w' ⟨rfl, ⟨nd, rfl⟩⟩; refine ⟨_, rfl, ?_⟩))
     go_ret2
     exact ⟨by first | rfl | (simp [errW_none, errW_some] <;> rfl) | (simp [*, errW_none, errW_some] <;> rfl), by repeat (first | (with_reducible first | exact HB.out | apply below_alloc | apply pw_below_drewN | apply below_drew1 | refine below_set ?_ GE289.out) | exact HB.out)⟩

/-! ### stickfulref12_Pens: function 69 -/
mutual
def stickfulref12_Pens.l0 : Nat → List (S46) → List Int → Int → Int → Option (List Int × Int)
 | 0, _, _, _, _ => none
 | k + 1, x0, x1, x2, x8 => if x8 < (x0.length : Int) then (if 0 ≤ x8 then (if ((rd_T46 x0 x8).f0) = 4 then (if ((rd_T46 x0 x8).f3) < 0 then (some (([] : List Int), 2)) else (stickfulref12_Pens.l0 k x0 x1 x2 (wrap64 (x8 + 1)))) else (stickfulref12_Pens.l0 k x0 x1 x2 (wrap64 (x8 + 1)))) else (none)) else ((stickfulref12_fits.f x2).bind fun t300 => (if t300 = true then (stickfulref12_Pens.l1 k x0 x1 x2 (([x2] : List Int)) 0) else (some (([] : List Int), 10))))
def stickfulref12_Pens.l1 : Nat → List (S46) → List Int → Int → List Int → Int → Option (List Int × Int)
 | 0, _, _, _, _, _ => none
 | k + 1, x0, x1, x2, x9, x10 => if x10 < (x0.length : Int) then (if x10 < (x1.length : Int) then (if 0 ≤ x10 then (stickfulref12_Pens.j2 k x0 x1 x2 x9 x10 ((rd x1 x10) == 1)) else (none)) else (stickfulref12_Pens.j2 k x0 x1 x2 x9 x10 false)) else (some (x9, 0))
def stickfulref12_Pens.j2 : Nat → List (S46) → List Int → Int → List Int → Int → Bool → Option (List Int × Int)
 | 0, _, _, _, _, _, _ => none
 | k + 1, x0, x1, x2, x9, x10, x54 => if x54 = true then (if x9.length < 17592186044416 then (stickfulref12_Pens.l1 k x0 x1 x2 (x9 ++ [x2]) (wrap64 (x10 + 1))) else (none)) else (if 0 ≤ x10 then (if x10 < (x0.length : Int) then ((stickfulref12_Step.f k ((rd_T46 x0 x10).f0) ((rd_T46 x0 x10).f1) ((rd_T46 x0 x10).f2) ((rd_T46 x0 x10).f3) ((rd_T46 x0 x10).f4) ((rd_T46 x0 x10).f5) x2).bind fun bt309 => (if bt309.2 = 0 then (if x9.length < 17592186044416 then (stickfulref12_Pens.l1 k x0 x1 bt309.1 (x9 ++ [bt309.1]) (wrap64 (x10 + 1))) else (none)) else (some (([] : List Int), bt309.2)))) else (none)) else (none))
end
def stickfulref12_Pens.f (k : Nat) (l0 : List (S46)) (l1 : List Int) (a2 : Int) : Option (List Int × Int) := stickfulref12_Pens.l0 k l0 l1 a2 0
theorem stickfulref12_Pens.mono_l : ∀ k, (∀ y0 y1 y2 y3, LeO (stickfulref12_Pens.l0 k y0 y1 y2 y3) (stickfulref12_Pens.l0 (k + 1) y0 y1 y2 y3)) ∧ (∀ y0 y1 y2 y3 y4, LeO (stickfulref12_Pens.l1 k y0 y1 y2 y3 y4) (stickfulref12_Pens.l1 (k + 1) y0 y1 y2 y3 y4)) ∧ (∀ y0 y1 y2 y3 y4 y5, LeO (stickfulref12_Pens.j2 k y0 y1 y2 y3 y4 y5) (stickfulref12_Pens.j2 (k + 1) y0 y1 y2 y3 y4 y5))
 | 0 => ⟨fun _ _ _ _ r h => by simp [stickfulref12_Pens.l0] at h, fun _ _ _ _ _ r h => by simp [stickfulref12_Pens.l1] at h, fun _ _ _ _ _ _ r h => by simp [stickfulref12_Pens.j2] at h⟩
 | k + 1 => by
  obtain ⟨ih0, ih1, ih2⟩ := stickfulref12_Pens.mono_l k
  refine ⟨?_, ?_, ?_⟩
  ·intro y0 y1 y2 y3
   unfold stickfulref12_Pens.l0
   repeat' first
   | (with_reducible exact ih0 _ _ _ _)
   | (with_reducible exact ih1 _ _ _ _ _)
   | (with_reducible exact ih2 _ _ _ _ _ _)
   | (with_reducible exact stickfulref12_Step.mono _ _ _ _ _ _ _ _)
   | (with_reducible exact LeO.refl _)
   | (with_reducible exact LeO.none _)
   | (with_reducible refine LeO.ite ?_ ?_)
   | (with_reducible refine LeO.bind ?_ (fun _ => ?_))
   | exact ih0 _ _ _ _
   | exact ih1 _ _ _ _ _
   | exact ih2 _ _ _ _ _ _
   | exact stickfulref12_Step.mono _ _ _ _ _ _ _ _
   | exact LeO.none _
   | refine LeO.ite ?_ ?_
   | refine LeO.bind ?_ (fun _ => ?_)
  ·intro y0 y1 y2 y3 y4
   unfold stickfulref12_Pens.l1
   repeat' first
   | (with_reducible exact ih0 _ _ _ _)
   | (with_reducible exact ih1 _ _ _ _ _)
   | (with_reducible exact ih2 _ _ _ _ _ _)
   | (with_reducible exact stickfulref12_Step.mono _ _ _ _ _ _ _ _)
   | (with_reducible exact LeO.refl _)
   | (with_reducible exact LeO.none _)
   | (with_reducible refine LeO.ite ?_ ?_)
   | (with_reducible refine LeO.bind ?_ (fun _ => ?_))
   | exact ih0 _ _ _ _
   | exact ih1 _ _ _ _ _
   | exact ih2 _ _ _ _ _ _
   | exact stickfulref12_Step.mono _ _ _ _ _ _ _ _
   | exact LeO.none _
   | refine LeO.ite ?_ ?_
   | refine LeO.bind ?_ (fun _ => ?_)
  ·intro y0 y1 y2 y3 y4 y5
   unfold stickfulref12_Pens.j2
   repeat' first
   | (with_reducible exact ih0 _ _ _ _)
   | (with_reducible exact ih1 _ _ _ _ _)
   | (with_reducible exact ih2 _ _ _ _ _ _)
   | (with_reducible exact stickfulref12_Step.mono _ _ _ _ _ _ _ _)
   | (with_reducible exact LeO.refl _)
   | (with_reducible exact LeO.none _)
   | (with_reducible refine LeO.ite ?_ ?_)
   | (with_reducible refine LeO.bind ?_ (fun _ => ?_))
   | exact ih0 _ _ _ _
   | exact ih1 _ _ _ _ _
   | exact ih2 _ _ _ _ _ _
   | exact stickfulref12_Step.mono _ _ _ _ _ _ _ _
   | exact LeO.none _
   | refine LeO.ite ?_ ?_
   | refine LeO.bind ?_ (fun _ => ?_)
theorem stickfulref12_Pens.mono : ∀ a0 a1 a2 k, LeO (stickfulref12_Pens.f k a0 a1 a2) (stickfulref12_Pens.f (k + 1) a0 a1 a2) := by
 intro a0 a1 a2 k
 obtain ⟨ih0, ih1, ih2⟩ := stickfulref12_Pens.mono_l k
 unfold stickfulref12_Pens.f
 repeat' first
   | (with_reducible exact ih0 _ _ _ _)
   | (with_reducible exact ih1 _ _ _ _ _)
   | (with_reducible exact ih2 _ _ _ _ _ _)
   | (with_reducible exact stickfulref12_Step.mono _ _ _ _ _ _ _ _)
   | (with_reducible exact LeO.refl _)
   | (with_reducible exact LeO.none _)
   | (with_reducible refine LeO.ite ?_ ?_)
   | (with_reducible refine LeO.bind ?_ (fun _ => ?_))
   | exact ih0 _ _ _ _
   | exact ih1 _ _ _ _ _
   | exact ih2 _ _ _ _ _ _
   | exact stickfulref12_Step.mono _ _ _ _ _ _ _ _
   | exact LeO.none _
   | refine LeO.ite ?_ ?_
   | refine LeO.bind ?_ (fun _ => ?_)
set_option maxHeartbeats 8000000 in
set_option maxRecDepth 100000 in
theorem stickfulref12_Pens.calls (k : Nat) (A0 : Option Addr) (c0 : Nat) (l0 : List (S46)) (A1 : Option Addr) (c1 : Nat) (l1 : List Int) (a2 : Int) (r1 : List Int) (r2 : Int) (w : World) (hr0 : Kd.C k46 w A0 l0.length l0) (hc0 : l0.length ≤ c0) (hr1 : Kd.C (Kd.int .u8) w A1 l1.length l1) (hc1 : l1.length ≤ c1) (h : stickfulref12_Pens.f k l0 l1 a2 = some (r1, r2)) :
  Calls Try.prog 69 #[.slice A0 l0.length c0, .slice A1 l1.length c1, .int .i64 a2] w fun e w' => ∃ v0_ : Value, e = .returned (.tuple #[v0_, .int .i64 r2]) ∧ Kd.R (Kd.int .i64) 2 w' w.heap.size (fun _ => True) v0_ r1 ∧ Below w.heap.size w w' := by
 have hu46 := Try.underlying46
 have HR0 := Aside0.mk hr0
 have HC0 := Aside0.mk hc0
 clear hr0 hc0
 have HR1 := Aside0.mk hr1
 have HC1 := Aside0.mk hc1
 clear hr1 hc1
 have HB := Aside0.mk (Below.refl w.heap.size w)
 have H : (stickfulref12_Pens.l0 k l0 l1 a2 0) = some (r1, r2) := h
 clear h
 have H' := Aside0.mk H
 clear H
 go_enter Try.func69, Try.ntmps69
 go_wp2
 go_loopg [8] k (fun kq v8 w' => ∃ (x8_1 : Int), v8 = .int .i64 x8_1 ∧ Aside0 (stickfulref12_Pens.l0 kq l0 l1 a2 x8_1 = some (r1, r2)) ∧ Aside0 (kq ≤ k) ∧ Aside0 (Below w.heap.size w w'))
 case atStart => exact ⟨(0), (by first | rfl | (simp; done) | (simp [*]; done)), H', ⟨Nat.le_refl _⟩, ⟨by repeat (first | (with_reducible first | exact HB.out | apply below_alloc | apply pw_below_drewN | apply below_drew1) | exact HB.out)⟩⟩
 case round =>
  clear H'
  try clear c1
  try clear p2
  obtain ⟨x8_1, rfl, HA, HK1, HB⟩ := hrel
  cases gk with
  | zero => exact absurd HA.out (by simp [stickfulref12_Pens.l0])
  | succ k1 =>
   have H := HA.out
   clear HA
   simp only [stickfulref12_Pens.l0] at H
   by_cases c4 : x8_1 < (l0.length : Int)
   ·rw [if_pos c4] at H
    have c4b0 : decide (x8_1 < (l0.length : Int)) = true := decide_eq_true c4
    clear c4
    by_cases c5 : 0 ≤ x8_1
    ·rw [if_pos c5] at H
     have c5b0 : decide (0 ≤ x8_1) = true := decide_eq_true c5
     clear c5
     by_cases c6 : ((rd_T46 l0 x8_1).f0) = 4
     ·rw [if_pos c6] at H
      have c6b0 : (((rd_T46 l0 x8_1).f0) == 4) = true := beq_iff_eq.mpr c6
      have c6b1 : (((rd_T46 l0 x8_1).f0) != 4) = false := bne_eq_false_iff_eq.mpr c6
      clear c6
      by_cases c7 : ((rd_T46 l0 x8_1).f3) < 0
      ·rw [if_pos c7] at H
       have c7b0 : decide (((rd_T46 l0 x8_1).f3) < 0) = true := decide_eq_true c7
       clear c7
       simp only [Option.some.injEq, Prod.mk.injEq] at H
       obtain ⟨rfl, rfl⟩ := H
       have p298 : 0 ≤ (x8_1 : Int) := of_decide_eq_true (by first | (with_reducible assumption) | assumption)
       have q298 : x8_1 < (l0.length : Int) := of_decide_eq_true (by first | (with_reducible assumption) | assumption)
       obtain ⟨ad298, e298, hx298_0, hx298_1, hx298_2, hx298_3, hx298_4, hx298_5⟩ := at_T46 HR0.out x8_1 p298 q298
       cases e298
       replace hx298_0 := (HB.out.cell (World.block_lt_of_cell? w _ hx298_0)).trans hx298_0
       replace hx298_1 := (HB.out.cell (World.block_lt_of_cell? w _ hx298_1)).trans hx298_1
       replace hx298_2 := (HB.out.cell (World.block_lt_of_cell? w _ hx298_2)).trans hx298_2
       replace hx298_3 := (HB.out.cell (World.block_lt_of_cell? w _ hx298_3)).trans hx298_3
       replace hx298_4 := (HB.out.cell (World.block_lt_of_cell? w _ hx298_4)).trans hx298_4
       replace hx298_5 := (HB.out.cell (World.block_lt_of_cell? w _ hx298_5)).trans hx298_5
       replace p298 := eq_true p298
       replace q298 := eq_true q298
       have p299 : 0 ≤ (x8_1 : Int) := of_decide_eq_true (by first | (with_reducible assumption) | assumption)
       have q299 : x8_1 < (l0.length : Int) := of_decide_eq_true (by first | (with_reducible assumption) | assumption)
       obtain ⟨ad299, e299, hx299_0, hx299_1, hx299_2, hx299_3, hx299_4, hx299_5⟩ := at_T46 HR0.out x8_1 p299 q299
       obtain rfl : ad298 = ad299 := (by injection e299)
       replace hx299_0 := (HB.out.cell (World.block_lt_of_cell? w _ hx299_0)).trans hx299_0
       replace hx299_1 := (HB.out.cell (World.block_lt_of_cell? w _ hx299_1)).trans hx299_1
       replace hx299_2 := (HB.out.cell (World.block_lt_of_cell? w _ hx299_2)).trans hx299_2
       replace hx299_3 := (HB.out.cell (World.block_lt_of_cell? w _ hx299_3)).trans hx299_3
       replace hx299_4 := (HB.out.cell (World.block_lt_of_cell? w _ hx299_4)).trans hx299_4
       replace hx299_5 := (HB.out.cell (World.block_lt_of_cell? w _ hx299_5)).trans hx299_5
       replace p299 := eq_true p299
       replace q299 := eq_true q299
       go_wp2
       go_ret2
       exact ⟨_, by first | rfl | (simp [errW_none, errW_some] <;> rfl) | (simp [*, errW_none, errW_some] <;> rfl), by first | exact Kd.R_nil _ _ _ _ _ | exact Kd.N_nil _ _ _ _ _ | exact Kd.V_nil _ _ _ _ _ | exact Kd.Q_nil _ _ _ _ _ | exact Kd.S_nil _ _ _ _ _, by repeat (first | (with_reducible first | exact HB.out | apply below_alloc | apply pw_below_drewN | apply below_drew1) | exact HB.out)⟩
      ·rw [if_neg c7] at H
       have c7b0 : decide (((rd_T46 l0 x8_1).f3) < 0) = false := decide_eq_false c7
       clear c7
       have H' := Aside0.mk H
       clear H
       have p298 : 0 ≤ (x8_1 : Int) := of_decide_eq_true (by first | (with_reducible assumption) | assumption)
       have q298 : x8_1 < (l0.length : Int) := of_decide_eq_true (by first | (with_reducible assumption) | assumption)
       obtain ⟨ad298, e298, hx298_0, hx298_1, hx298_2, hx298_3, hx298_4, hx298_5⟩ := at_T46 HR0.out x8_1 p298 q298
       cases e298
       replace hx298_0 := (HB.out.cell (World.block_lt_of_cell? w _ hx298_0)).trans hx298_0
       replace hx298_1 := (HB.out.cell (World.block_lt_of_cell? w _ hx298_1)).trans hx298_1
       replace hx298_2 := (HB.out.cell (World.block_lt_of_cell? w _ hx298_2)).trans hx298_2
       replace hx298_3 := (HB.out.cell (World.block_lt_of_cell? w _ hx298_3)).trans hx298_3
       replace hx298_4 := (HB.out.cell (World.block_lt_of_cell? w _ hx298_4)).trans hx298_4
       replace hx298_5 := (HB.out.cell (World.block_lt_of_cell? w _ hx298_5)).trans hx298_5
       replace p298 := eq_true p298
       replace q298 := eq_true q298
       have p299 : 0 ≤ (x8_1 : Int) := of_decide_eq_true (by first | (with_reducible assumption) | assumption)
       have q299 : x8_1 < (l0.length : Int) := of_decide_eq_true (by first | (with_reducible assumption) | assumption)
       obtain ⟨ad299, e299, hx299_0, hx299_1, hx299_2, hx299_3, hx299_4, hx299_5⟩ := at_T46 HR0.out x8_1 p299 q299
       obtain rfl : ad298 = ad299 := (by injection e299)
       replace hx299_0 := (HB.out.cell (World.block_lt_of_cell? w _ hx299_0)).trans hx299_0
       replace hx299_1 := (HB.out.cell (World.block_lt_of_cell? w _ hx299_1)).trans hx299_1
       replace hx299_2 := (HB.out.cell (World.block_lt_of_cell? w _ hx299_2)).trans hx299_2
       replace hx299_3 := (HB.out.cell (World.block_lt_of_cell? w _ hx299_3)).trans hx299_3
       replace hx299_4 := (HB.out.cell (World.block_lt_of_cell? w _ hx299_4)).trans hx299_4
       replace hx299_5 := (HB.out.cell (World.block_lt_of_cell? w _ hx299_5)).trans hx299_5
       replace p299 := eq_true p299
       replace q299 := eq_true q299
       go_wp2
       go_roundg k1
       case measure => have := HK1.out; omega
       case rel => exact ⟨(wrap64 (x8_1 + 1)), (by first | rfl | (simp; done) | (simp [*]; done)), H', ⟨by have := HK1.out; omega⟩, ⟨by repeat (first | (with_reducible first | exact HB.out | apply below_alloc | apply pw_below_drewN | apply below_drew1) | exact HB.out)⟩⟩
     ·rw [if_neg c6] at H
      have c6b0 : (((rd_T46 l0 x8_1).f0) == 4) = false := beq_eq_false_iff_ne.mpr c6
      have c6b1 : (((rd_T46 l0 x8_1).f0) != 4) = true := bne_iff_ne.mpr c6
      have H' := Aside0.mk H
      clear H
      have p298 : 0 ≤ (x8_1 : Int) := of_decide_eq_true (by first | (with_reducible assumption) | assumption)
      have q298 : x8_1 < (l0.length : Int) := of_decide_eq_true (by first | (with_reducible assumption) | assumption)
      obtain ⟨ad298, e298, hx298_0, hx298_1, hx298_2, hx298_3, hx298_4, hx298_5⟩ := at_T46 HR0.out x8_1 p298 q298
      cases e298
      replace hx298_0 := (HB.out.cell (World.block_lt_of_cell? w _ hx298_0)).trans hx298_0
      replace hx298_1 := (HB.out.cell (World.block_lt_of_cell? w _ hx298_1)).trans hx298_1
      replace hx298_2 := (HB.out.cell (World.block_lt_of_cell? w _ hx298_2)).trans hx298_2
      replace hx298_3 := (HB.out.cell (World.block_lt_of_cell? w _ hx298_3)).trans hx298_3
      replace hx298_4 := (HB.out.cell (World.block_lt_of_cell? w _ hx298_4)).trans hx298_4
      replace hx298_5 := (HB.out.cell (World.block_lt_of_cell? w _ hx298_5)).trans hx298_5
      replace p298 := eq_true p298
      replace q298 := eq_true q298
      go_wp2
      go_roundg k1
      case measure => have := HK1.out; omega
      case rel => exact ⟨(wrap64 (x8_1 + 1)), (by first | rfl | (simp; done) | (simp [*]; done)), H', ⟨by have := HK1.out; omega⟩, ⟨by repeat (first | (with_reducible first | exact HB.out | apply below_alloc | apply pw_below_drewN | apply below_drew1) | exact HB.out)⟩⟩
    ·rw [if_neg c5] at H
     exact absurd H (by simp)
   ·rw [if_neg c4] at H
    have c4b0 : decide (x8_1 < (l0.length : Int)) = false := decide_eq_false c4
    clear c4
    replace H := Option.bind_eq_some_iff.mp H
    obtain ⟨t300, A80, H⟩ := H
    replace H : (if t300 = true then (stickfulref12_Pens.l1 k1 l0 l1 a2 (([a2] : List Int)) 0) else (some (([] : List Int), 10))) = some (r1, r2) := H
    have A8 := Aside0.mk A80
    clear A80
    by_cases c9 : t300 = true
    ·subst c9
     have H1 : (stickfulref12_Pens.l1 k1 l0 l1 a2 (([a2] : List Int)) 0) = some (r1, r2) := by rw [if_pos rfl] at H; exact H
     clear H
     have H := H1
     clear H1
     obtain ⟨y301, hy301⟩ : ∃ y_ : List Int, y_ = (([a2] : List Int)) := ⟨_, rfl⟩
     replace H : (stickfulref12_Pens.l1 k1 l0 l1 a2 y301 0) = some (r1, r2) := by first | (rw [hy301]; with_reducible exact H) | (have H2_ := (Option.bind_some _ _).symm.trans H; rw [hy301]; with_reducible exact H2_) | (have H2_ := (Option.bind_some _ _).symm.trans H; with_reducible exact H2_) | with_reducible exact H | (rw [hy301]; exact H) | exact H
     have Ny301 := Aside0.mk hy301
     clear hy301
     have H' := Aside0.mk H
     clear H
     go_wp2_with (first | ((with_reducible refine gate_callee (f := 71) rfl ?_); refine goesB (some 34) rfl rfl Try.func71 #[.int .i64 a2] rfl ?_; (with_reducible refine (stickfulref12_fits.calls a2 true _ A8.out).mono ?_); rintro e w' ⟨rfl, ⟨nd, rfl⟩⟩; refine ⟨_, rfl, ?_⟩) | ((with_reducible refine gate_dst (N := 37) rfl ?_); refine Kd.R_lit (Kd.int .i64) _ 2 ?hg (N := 37) ?hd (xs := ([a2] : List Int)) (inner := [.int .i64 a2]) (ok := fun _ => True) (okp := fun _ => True) ?hr ?hp (fun _ hk => hk) trivial (Below.refl _ _) (Nat.le_refl _) (by simp) ?_; (case hd => rfl); (case hg => rfl); (case hr => first | (go_simp; done) | (go_simp; rfl)); (case hp => exact (Reps.one (show Kd.M (Kd.int .i64) _ _ _ a2 [.int .i64 a2] from rfl) (Reps.none _ _))); intro v302 w10 ho11 hb hg_ hnew_; clear hg_ hnew_; (first | rw [← Ny301.out] at ho11 | (simp only [Int.reduceToNat] at ho11; rw [← Ny301.out] at ho11)); have HO303 := Aside0.mk (Kd.R_lower ho11 (below_size (bw HB))); replace HB := bh HB hb; clear hb ho11))
     go_loopg [2, 9, 10] k1 (fun kq v2 v9 v10 w' => ∃ (x2_2 : Int) (x9_2 : List Int) (x10_2 : Int), v2 = .int .i64 x2_2 ∧ v10 = .int .i64 x10_2 ∧ Aside0 (stickfulref12_Pens.l1 kq l0 l1 x2_2 x9_2 x10_2 = some (r1, r2)) ∧ Aside0 (kq ≤ k1) ∧ Aside0 (Kd.R (Kd.int .i64) 2 w' w.heap.size (fun _ => True) v9 x9_2) ∧ Aside0 (Below w.heap.size w w'))
     case atStart => exact ⟨(a2), (y301), (0), (by first | rfl | (simp; done) | (simp [*]; done)), (by first | rfl | (simp; done) | (simp [*]; done)), H', ⟨Nat.le_refl _⟩, ⟨by (with_reducible repeat (first | apply Kd.R_alloc | apply Kd.R_drewN | apply Kd.R_drew)); exact HO303.out⟩, ⟨by repeat (first | (with_reducible first | exact HB.out | apply below_alloc | apply pw_below_drewN | apply below_drew1) | exact HB.out)⟩⟩
     case round =>
      clear H'
      try clear c1
      try clear p2
      try clear q2
      try clear hx2
      try clear c4
      try clear c4b0
      try clear c5
      try clear c5b0
      try clear c6
      try clear c6b0
      try clear c6b1
      try clear p6
      try clear c7
      try clear c7b0
      try clear c9
      try clear hx298_0
      try clear hx298_1
      try clear hx298_2
      try clear hx298_3
      try clear hx298_4
      try clear hx298_5
      try clear hx299_0
      try clear hx299_1
      try clear hx299_2
      try clear hx299_3
      try clear hx299_4
      try clear hx299_5
      try clear p2
      try clear p298
      try clear p299
      try clear q298
      try clear q299
      obtain ⟨x2_2, x9_2, x10_2, rfl, rfl, HA, HK2, HO_9, HB⟩ := hrel
      cases gk with
      | zero => exact absurd HA.out (by simp [stickfulref12_Pens.l1])
      | succ k2 =>
       have H := HA.out
       clear HA
       simp only [stickfulref12_Pens.l1] at H
       by_cases c12 : x10_2 < (l0.length : Int)
       ·rw [if_pos c12] at H
        have c12b0 : decide (x10_2 < (l0.length : Int)) = true := decide_eq_true c12
        clear c12
        have HC13 := Aside0.mk H
        clear H
        go_upto_region 12 with (fail)
        go_cut [54] (fun v54 wc => ∃ (kq : Nat) (x54_12 : Bool), v54 = .bool x54_12 ∧ Aside0 (stickfulref12_Pens.j2 kq l0 l1 x2_2 x9_2 x10_2 x54_12 = some (r1, r2)) ∧ Aside0 (kq ≤ k2) ∧ Aside0 (Kd.R (Kd.int .i64) 2 wc w.heap.size (fun _ => True) u9 x9_2) ∧ Aside0 (Below w.heap.size w wc))
        case first =>
         have H := HC13.out
         clear HC13
         by_cases c14 : x10_2 < (l1.length : Int)
         ·rw [if_pos c14] at H
          have c14b0 : decide (x10_2 < (l1.length : Int)) = true := decide_eq_true c14
          clear c14
          (first | rw [c14b0] | (simp only [i64_w, i32_w]; rw [c14b0]) | skip)
          by_cases c15 : 0 ≤ x10_2
          ·rw [if_pos c15] at H
           have c15b0 : decide (0 ≤ x10_2) = true := decide_eq_true c15
           clear c15
           have H' := Aside0.mk H
           clear H
           have p304 : 0 ≤ (x10_2 : Int) := of_decide_eq_true (by first | (with_reducible assumption) | assumption)
           have q304 : x10_2 < (l1.length : Int) := of_decide_eq_true (by first | (with_reducible assumption) | assumption)
           obtain ⟨ad304, e304, hx304_0⟩ := Kd.at_int HR1.out x10_2 p304 q304
           cases e304
           replace hx304_0 := (HB.out.cell (World.block_lt_of_cell? w _ hx304_0)).trans hx304_0
           replace p304 := eq_true p304
           replace q304 := eq_true q304
           go_wp2
           go_meet
           case rel => exact ⟨_, (((rd l1 x10_2) == 1)), (by first | rfl | (simp; done) | (simp [*]; done)), H', ⟨by have := HK1.out; have := HK2.out; first | omega | exact Nat.le_refl _⟩, ⟨by (with_reducible repeat (first | apply Kd.R_alloc | apply Kd.R_drewN | apply Kd.R_drew)); exact HO_9.out⟩, ⟨by repeat (first | (with_reducible first | exact HB.out | apply below_alloc | apply pw_below_drewN | apply below_drew1) | exact HB.out)⟩⟩
          ·rw [if_neg c15] at H
           exact absurd H (by simp)
         ·rw [if_neg c14] at H
          have c14b0 : decide (x10_2 < (l1.length : Int)) = false := decide_eq_false c14
          clear c14
          (first | rw [c14b0] | (simp only [i64_w, i32_w]; rw [c14b0]) | skip)
          have H' := Aside0.mk H
          clear H
          go_wp2
          go_meet
          case rel => exact ⟨_, (false), (by first | rfl | (simp; done) | (simp [*]; done)), H', ⟨by have := HK1.out; have := HK2.out; first | omega | exact Nat.le_refl _⟩, ⟨by (with_reducible repeat (first | apply Kd.R_alloc | apply Kd.R_drewN | apply Kd.R_drew)); exact HO_9.out⟩, ⟨by repeat (first | (with_reducible first | exact HB.out | apply below_alloc | apply pw_below_drewN | apply below_drew1) | exact HB.out)⟩⟩
        case rest =>
         clear HC13
         try clear c1
         try clear p2
         try clear q2
         try clear hx2
         try clear p3
         try clear q3
         try clear hx3
         try clear c4
         try clear c4b0
         try clear c5
         try clear c5b0
         try clear c6
         try clear c6b0
         try clear c6b1
         try clear p6
         try clear c7
         try clear c7b0
         try clear c9
         try clear c12
         try clear c12b0
         try clear c14
         try clear c14b0
         try clear c15
         try clear c15b0
         try clear hx298_0
         try clear hx298_1
         try clear hx298_2
         try clear hx298_3
         try clear hx298_4
         try clear hx298_5
         try clear hx299_0
         try clear hx299_1
         try clear hx299_2
         try clear hx299_3
         try clear hx299_4
         try clear hx299_5
         try clear hx304_0
         try clear p2
         try clear p298
         try clear p299
         try clear p304
         try clear p6
         try clear q2
         try clear q298
         try clear q299
         try clear q304
         obtain ⟨kq, x54_12, rfl, HA, HJ12, HO_9, HB⟩ := hcut
         cases kq with
         | zero => exact absurd HA.out (by simp [stickfulref12_Pens.j2])
         | succ kj12 =>
          have H := HA.out
          clear HA
          simp only [stickfulref12_Pens.j2] at H
          by_cases c16 : x54_12 = true
          ·subst c16
           have H1 : (if x9_2.length < 17592186044416 then (stickfulref12_Pens.l1 kj12 l0 l1 x2_2 (x9_2 ++ [x2_2]) (wrap64 (x10_2 + 1))) else (none)) = some (r1, r2) := by rw [if_pos rfl] at H; exact H
           clear H
           have H := H1
           clear H1
           by_cases c17 : x9_2.length < 17592186044416
           ·rw [if_pos c17] at H
            have LMc17 := Aside0.mk c17
            clear c17
            obtain ⟨y305, hy305⟩ : ∃ y_ : List Int, y_ = (x9_2 ++ [x2_2]) := ⟨_, rfl⟩
            replace H : (stickfulref12_Pens.l1 kj12 l0 l1 x2_2 y305 (wrap64 (x10_2 + 1))) = some (r1, r2) := by first | (rw [hy305]; with_reducible exact H) | (have H2_ := (Option.bind_some _ _).symm.trans H; rw [hy305]; with_reducible exact H2_) | (have H2_ := (Option.bind_some _ _).symm.trans H; with_reducible exact H2_) | with_reducible exact H | (rw [hy305]; exact H) | exact H
            have Ny305 := Aside0.mk hy305
            clear hy305
            have H' := Aside0.mk H
            clear H
            go_wp2_with (first | ((with_reducible refine gate_builtin (b := .append) (xs := #[.tmp 55, .tmp 57]) rfl ?_); at_builtin; refine Kd.R_append (Kd.int .i64) (w0 := w) w.heap.size rfl (.tmp 55) (.tmp 57) 92 2 (.int .i64 0) 8 rfl Try.underlying92 info2 rfl (by decide) (by omega) u9 x9_2 x2_2 [.int .i64 x2_2] (fun _ => True) (fun _ => False) rfl rfl ?aP (fun _ hk => hk.elim) ?aF ?aO ?aB ?aS ?aL ?_; (case aP => exact rfl); (case aB => exact (bw HB)); (case aF => exact (fun _ _ => trivial)); (case aO => exact (rx HO_9)); (case aS => exact (below_size (bw HB))); (case aL => have := LMc17.out; omega); intro v306 w18 ho hb hg hat; rw [← Ny305.out] at ho; replace HB := Aside0.mk (hb); have HO307 := Aside0.mk (ho); clear HO_9; clear ho hb hg hat))
            go_roundg kj12
            case measure => have := HK1.out; have := HK2.out; have := HJ12.out; omega
            case rel => exact ⟨(x2_2), (y305), (wrap64 (x10_2 + 1)), (by first | rfl | (simp; done) | (simp [*]; done)), (by first | rfl | (simp; done) | (simp [*]; done)), H', ⟨by have := HK1.out; have := HK2.out; have := HJ12.out; omega⟩, ⟨by (with_reducible repeat (first | apply Kd.R_alloc | apply Kd.R_drewN | apply Kd.R_drew)); exact HO307.out⟩, ⟨by repeat (first | (with_reducible first | exact HB.out | apply below_alloc | apply pw_below_drewN | apply below_drew1) | exact HB.out)⟩⟩
           ·rw [if_neg c17] at H
            exact absurd H (by simp)
          ·replace c16 := Bool.eq_false_iff.mpr c16
           subst c16
           have H1 : (if 0 ≤ x10_2 then (if x10_2 < (l0.length : Int) then ((stickfulref12_Step.f kj12 ((rd_T46 l0 x10_2).f0) ((rd_T46 l0 x10_2).f1) ((rd_T46 l0 x10_2).f2) ((rd_T46 l0 x10_2).f3) ((rd_T46 l0 x10_2).f4) ((rd_T46 l0 x10_2).f5) x2_2).bind fun bt309 => (if bt309.2 = 0 then (if x9_2.length < 17592186044416 then (stickfulref12_Pens.l1 kj12 l0 l1 bt309.1 (x9_2 ++ [bt309.1]) (wrap64 (x10_2 + 1))) else (none)) else (some (([] : List Int), bt309.2)))) else (none)) else (none)) = some (r1, r2) := by rw [if_neg (show ¬ (false = true) by decide)] at H; exact H
           clear H
           have H := H1
           clear H1
           by_cases c19 : 0 ≤ x10_2
           ·rw [if_pos c19] at H
            have c19b0 : decide (0 ≤ x10_2) = true := decide_eq_true c19
            clear c19
            by_cases c20 : x10_2 < (l0.length : Int)
            ·rw [if_pos c20] at H
             have c20b0 : decide (x10_2 < (l0.length : Int)) = true := decide_eq_true c20
             clear c20
             replace H := Option.bind_eq_some_iff.mp H
             obtain ⟨⟨t309, t310⟩, A210, H⟩ := H
             replace H : (if t310 = 0 then (if x9_2.length < 17592186044416 then (stickfulref12_Pens.l1 kj12 l0 l1 t309 (x9_2 ++ [t309]) (wrap64 (x10_2 + 1))) else (none)) else (some (([] : List Int), t310))) = some (r1, r2) := H
             have A21 := Aside0.mk A210
             clear A210
             by_cases c22 : t310 = 0
             ·rw [if_pos c22] at H
              have c22b0 : (t310 == 0) = true := beq_iff_eq.mpr c22
              have c22b1 : (t310 != 0) = false := bne_eq_false_iff_eq.mpr c22
              clear c22
              by_cases c23 : x9_2.length < 17592186044416
              ·rw [if_pos c23] at H
               have LMc23 := Aside0.mk c23
               clear c23
               obtain ⟨y311, hy311⟩ : ∃ y_ : List Int, y_ = (x9_2 ++ [t309]) := ⟨_, rfl⟩
               replace H : (stickfulref12_Pens.l1 kj12 l0 l1 t309 y311 (wrap64 (x10_2 + 1))) = some (r1, r2) := by first | (rw [hy311]; with_reducible exact H) | (have H2_ := (Option.bind_some _ _).symm.trans H; rw [hy311]; with_reducible exact H2_) | (have H2_ := (Option.bind_some _ _).symm.trans H; with_reducible exact H2_) | with_reducible exact H | (rw [hy311]; exact H) | exact H
               have Ny311 := Aside0.mk hy311
               clear hy311
               have H' := Aside0.mk H
               clear H
               have p308 : 0 ≤ (x10_2 : Int) := of_decide_eq_true (by first | (with_reducible assumption) | assumption)
               have q308 : x10_2 < (l0.length : Int) := of_decide_eq_true (by first | (with_reducible assumption) | assumption)
               obtain ⟨ad308, e308, hx308_0, hx308_1, hx308_2, hx308_3, hx308_4, hx308_5⟩ := at_T46 HR0.out x10_2 p308 q308
               cases e308
               replace hx308_0 := (HB.out.cell (World.block_lt_of_cell? w _ hx308_0)).trans hx308_0
               replace hx308_1 := (HB.out.cell (World.block_lt_of_cell? w _ hx308_1)).trans hx308_1
               replace hx308_2 := (HB.out.cell (World.block_lt_of_cell? w _ hx308_2)).trans hx308_2
               replace hx308_3 := (HB.out.cell (World.block_lt_of_cell? w _ hx308_3)).trans hx308_3
               replace hx308_4 := (HB.out.cell (World.block_lt_of_cell? w _ hx308_4)).trans hx308_4
               replace hx308_5 := (HB.out.cell (World.block_lt_of_cell? w _ hx308_5)).trans hx308_5
               replace p308 := eq_true p308
               replace q308 := eq_true q308
               go_wp2_with (first | ((with_reducible refine gate_callee (f := 72) rfl ?_); refine goesB (some 65) rfl rfl Try.func72 #[.agg #[.int .u8 ((rd_T46 l0 x10_2).f0), .int .i64 ((rd_T46 l0 x10_2).f1), .int .i64 ((rd_T46 l0 x10_2).f2), .int .i64 ((rd_T46 l0 x10_2).f3), .bool ((rd_T46 l0 x10_2).f4), .bool ((rd_T46 l0 x10_2).f5)], .int .i64 x2_2] rfl ?_; (with_reducible refine (stickfulref12_Step.calls kj12 ((rd_T46 l0 x10_2).f0) ((rd_T46 l0 x10_2).f1) ((rd_T46 l0 x10_2).f2) ((rd_T46 l0 x10_2).f3) ((rd_T46 l0 x10_2).f4) ((rd_T46 l0 x10_2).f5) x2_2 t309 t310 _ A21.out).mono ?_); rintro e w24 ⟨rfl, hb⟩; refine ⟨_, rfl, ?_⟩; replace HO_9 := Aside0.mk (Kd.R_below (rx HO_9) hb); replace HB := bh HB hb; (try clear hb); (try clear hb2); (try clear hk); (try clear hi)) | ((with_reducible refine gate_builtin (b := .append) (xs := #[.tmp 72, .tmp 74]) rfl ?_); at_builtin; refine Kd.R_append (Kd.int .i64) (w0 := w) w.heap.size rfl (.tmp 72) (.tmp 74) 92 2 (.int .i64 0) 8 rfl Try.underlying92 info2 rfl (by decide) (by omega) u9 x9_2 t309 [.int .i64 t309] (fun _ => True) (fun _ => False) rfl rfl ?aP (fun _ hk => hk.elim) ?aF ?aO ?aB ?aS ?aL ?_; (case aP => exact rfl); (case aB => exact (bw HB)); (case aF => exact (fun _ _ => trivial)); (case aO => exact (rx HO_9)); (case aS => exact (below_size (bw HB))); (case aL => have := LMc23.out; omega); intro v312 w25 ho hb hg hat; rw [← Ny311.out] at ho; replace HB := Aside0.mk (hb); have HO313 := Aside0.mk (ho); clear HO_9; clear ho hb hg hat))
               go_roundg kj12
               case measure => have := HK1.out; have := HK2.out; have := HJ12.out; omega
               case rel => exact ⟨(t309), (y311), (wrap64 (x10_2 + 1)), (by first | rfl | (simp; done) | (simp [*]; done)), (by first | rfl | (simp; done) | (simp [*]; done)), H', ⟨by have := HK1.out; have := HK2.out; have := HJ12.out; omega⟩, ⟨by (with_reducible repeat (first | apply Kd.R_alloc | apply Kd.R_drewN | apply Kd.R_drew)); exact HO313.out⟩, ⟨by repeat (first | (with_reducible first | exact HB.out | apply below_alloc | apply pw_below_drewN | apply below_drew1) | exact HB.out)⟩⟩
              ·rw [if_neg c23] at H
               exact absurd H (by simp)
             ·rw [if_neg c22] at H
              have c22b0 : (t310 == 0) = false := beq_eq_false_iff_ne.mpr c22
              have c22b1 : (t310 != 0) = true := bne_iff_ne.mpr c22
              simp only [Option.some.injEq, Prod.mk.injEq] at H
              obtain ⟨rfl, rfl⟩ := H
              have p308 : 0 ≤ (x10_2 : Int) := of_decide_eq_true (by first | (with_reducible assumption) | assumption)
              have q308 : x10_2 < (l0.length : Int) := of_decide_eq_true (by first | (with_reducible assumption) | assumption)
              obtain ⟨ad308, e308, hx308_0, hx308_1, hx308_2, hx308_3, hx308_4, hx308_5⟩ := at_T46 HR0.out x10_2 p308 q308
              cases e308
              replace hx308_0 := (HB.out.cell (World.block_lt_of_cell? w _ hx308_0)).trans hx308_0
              replace hx308_1 := (HB.out.cell (World.block_lt_of_cell? w _ hx308_1)).trans hx308_1
              replace hx308_2 := (HB.out.cell (World.block_lt_of_cell? w _ hx308_2)).trans hx308_2
              replace hx308_3 := (HB.out.cell (World.block_lt_of_cell? w _ hx308_3)).trans hx308_3
              replace hx308_4 := (HB.out.cell (World.block_lt_of_cell? w _ hx308_4)).trans hx308_4
              replace hx308_5 := (HB.out.cell (World.block_lt_of_cell? w _ hx308_5)).trans hx308_5
              replace p308 := eq_true p308
              replace q308 := eq_true q308
              go_wp2_with (first | ((with_reducible refine gate_callee (f := 72) rfl ?_); refine goesB (some 65) rfl rfl Try.func72 #[.agg #[.int .u8 ((rd_T46 l0 x10_2).f0), .int .i64 ((rd_T46 l0 x10_2).f1), .int .i64 ((rd_T46 l0 x10_2).f2), .int .i64 ((rd_T46 l0 x10_2).f3), .bool ((rd_T46 l0 x10_2).f4), .bool ((rd_T46 l0 x10_2).f5)], .int .i64 x2_2] rfl ?_; (with_reducible refine (stickfulref12_Step.calls kj12 ((rd_T46 l0 x10_2).f0) ((rd_T46 l0 x10_2).f1) ((rd_T46 l0 x10_2).f2) ((rd_T46 l0 x10_2).f3) ((rd_T46 l0 x10_2).f4) ((rd_T46 l0 x10_2).f5) x2_2 t309 t310 _ A21.out).mono ?_); rintro e w26 ⟨rfl, hb⟩; refine ⟨_, rfl, ?_⟩; replace HO_9 := Aside0.mk (Kd.R_below (rx HO_9) hb); replace HB := bh HB hb; (try clear hb); (try clear hb2); (try clear hk); (try clear hi)))
              go_ret2
              exact ⟨_, by first | rfl | (simp [errW_none, errW_some] <;> rfl) | (simp [*, errW_none, errW_some] <;> rfl), by first | exact Kd.R_nil _ _ _ _ _ | exact Kd.N_nil _ _ _ _ _ | exact Kd.V_nil _ _ _ _ _ | exact Kd.Q_nil _ _ _ _ _ | exact Kd.S_nil _ _ _ _ _, by repeat (first | (with_reducible first | exact HB.out | apply below_alloc | apply pw_below_drewN | apply below_drew1) | exact HB.out)⟩
            ·rw [if_neg c20] at H
             exact absurd H (by simp)
           ·rw [if_neg c19] at H
            exact absurd H (by simp)
       ·rw [if_neg c12] at H
        have c12b0 : decide (x10_2 < (l0.length : Int)) = false := decide_eq_false c12
        clear c12
        simp only [Option.some.injEq, Prod.mk.injEq] at H
        obtain ⟨rfl, rfl⟩ := H
        go_wp2
        go_ret2
        exact ⟨_, by first | rfl | (simp [errW_none, errW_some] <;> rfl) | (simp [*, errW_none, errW_some] <;> rfl), by (with_reducible repeat (first | apply Kd.R_alloc | apply Kd.R_drewN | apply Kd.R_drew)); exact HO_9.out, by repeat (first | (with_reducible first | exact HB.out | apply below_alloc | apply pw_below_drewN | apply below_drew1) | exact HB.out)⟩
    ·replace c9 := Bool.eq_false_iff.mpr c9
     subst c9
     have H1 : (some (([] : List Int), 10)) = some (r1, r2) := by rw [if_neg (show ¬ (false = true) by decide)] at H; exact H
     clear H
     have H := H1
     clear H1
     simp only [Option.some.injEq, Prod.mk.injEq] at H
     obtain ⟨rfl, rfl⟩ := H
     go_wp2_with (first | ((with_reducible refine gate_callee (f := 71) rfl ?_); refine goesB (some 34) rfl rfl Try.func71 #[.int .i64 a2] rfl ?_; (with_reducible refine (stickfulref12_fits.calls a2 false _ A8.out).mono ?_); rintro e w' ⟨rfl, ⟨nd, rfl⟩⟩; refine ⟨_, rfl, ?_⟩))
     go_ret2
     exact ⟨_, by first | rfl | (simp [errW_none, errW_some] <;> rfl) | (simp [*, errW_none, errW_some] <;> rfl), by first | exact Kd.R_nil _ _ _ _ _ | exact Kd.N_nil _ _ _ _ _ | exact Kd.V_nil _ _ _ _ _ | exact Kd.Q_nil _ _ _ _ _ | exact Kd.S_nil _ _ _ _ _, by repeat (first | (with_reducible first | exact HB.out | apply below_alloc | apply pw_below_drewN | apply below_drew1) | exact HB.out)⟩

/-! ### stickfulref12_End: function 63 -/
def stickfulref12_End.f (k : Nat) (l0 : List (S46)) (l1 : List Int) (a2 : Int) : Option (Int × Int) := (stickfulref12_Pens.f k l0 l1 a2).bind fun bt314 => (if bt314.2 = 0 then (if 0 ≤ (wrap64 ((bt314.1.length : Int) - 1)) then (if (wrap64 ((bt314.1.length : Int) - 1)) < (bt314.1.length : Int) then (some (rd bt314.1 (wrap64 ((bt314.1.length : Int) - 1)), 0)) else (none)) else (none)) else (some (0, bt314.2)))
theorem stickfulref12_End.mono : ∀ a0 a1 a2 k, LeO (stickfulref12_End.f k a0 a1 a2) (stickfulref12_End.f (k + 1) a0 a1 a2) := by
 intro a0 a1 a2 k
 unfold stickfulref12_End.f
 repeat' first
   | (with_reducible exact stickfulref12_Pens.mono _ _ _ _)
   | (with_reducible exact LeO.refl _)
   | (with_reducible exact LeO.none _)
   | (with_reducible refine LeO.ite ?_ ?_)
   | (with_reducible refine LeO.bind ?_ (fun _ => ?_))
   | exact stickfulref12_Pens.mono _ _ _ _
   | exact LeO.none _
   | refine LeO.ite ?_ ?_
   | refine LeO.bind ?_ (fun _ => ?_)
set_option maxHeartbeats 8000000 in
set_option maxRecDepth 100000 in
theorem stickfulref12_End.calls (k : Nat) (A0 : Option Addr) (c0 : Nat) (l0 : List (S46)) (A1 : Option Addr) (c1 : Nat) (l1 : List Int) (a2 r1 r2 : Int) (w : World) (hr0 : Kd.C k46 w A0 l0.length l0) (hc0 : l0.length ≤ c0) (hr1 : Kd.C (Kd.int .u8) w A1 l1.length l1) (hc1 : l1.length ≤ c1) (h : stickfulref12_End.f k l0 l1 a2 = some (r1, r2)) :
  Calls Try.prog 63 #[.slice A0 l0.length c0, .slice A1 l1.length c1, .int .i64 a2] w fun e w' => e = .returned (.tuple #[.int .i64 r1, .int .i64 r2]) ∧ Below w.heap.size w w' := by
 have HR0 := Aside0.mk hr0
 have HC0 := Aside0.mk hc0
 clear hr0 hc0
 have HR1 := Aside0.mk hr1
 have HC1 := Aside0.mk hc1
 clear hr1 hc1
 have HB := Aside0.mk (Below.refl w.heap.size w)
 have H : ((stickfulref12_Pens.f k l0 l1 a2).bind fun bt314 => (if bt314.2 = 0 then (if 0 ≤ (wrap64 ((bt314.1.length : Int) - 1)) then (if (wrap64 ((bt314.1.length : Int) - 1)) < (bt314.1.length : Int) then (some (rd bt314.1 (wrap64 ((bt314.1.length : Int) - 1)), 0)) else (none)) else (none)) else (some (0, bt314.2)))) = some (r1, r2) := h
 clear h
 replace H := Option.bind_eq_some_iff.mp H
 obtain ⟨⟨t314, t315⟩, A40, H⟩ := H
 replace H : (if t315 = 0 then (if 0 ≤ (wrap64 ((t314.length : Int) - 1)) then (if (wrap64 ((t314.length : Int) - 1)) < (t314.length : Int) then (some (rd t314 (wrap64 ((t314.length : Int) - 1)), 0)) else (none)) else (none)) else (some (0, t315))) = some (r1, r2) := H
 have A4 := Aside0.mk A40
 clear A40
 by_cases c5 : t315 = 0
 ·rw [if_pos c5] at H
  have c5b0 : (t315 == 0) = true := beq_iff_eq.mpr c5
  have c5b1 : (t315 != 0) = false := bne_eq_false_iff_eq.mpr c5
  clear c5
  obtain ⟨ji6, hji6⟩ : ∃ j_ : Int, (wrap64 ((t314.length : Int) - 1)) = j_ := ⟨_, rfl⟩
  replace H : (if 0 ≤ (ji6) then (if (ji6) < (t314.length : Int) then (some (rd t314 (ji6), 0)) else (none)) else (none)) = some (r1, r2) := by first | (rw [hji6] at H; exact H) | (simp only [hji6] at H ⊢; exact H)
  (try rw [hji6] at A4)
  have hji6w : (IntKind.i64.wrap ((t314.length : Int) - 1)) = ji6 := (i64_w _).trans hji6
  by_cases c7 : 0 ≤ (ji6)
  ·rw [if_pos c7] at H
   have c7b0 : decide (0 ≤ (ji6)) = true := decide_eq_true c7
   clear c7
   by_cases c8 : (ji6) < (t314.length : Int)
   ·rw [if_pos c8] at H
    have c8b0 : decide ((ji6) < (t314.length : Int)) = true := decide_eq_true c8
    clear c8
    simp only [Option.some.injEq, Prod.mk.injEq] at H
    obtain ⟨rfl, rfl⟩ := H
    go_enter Try.func63, Try.ntmps63
    go_wp2_with (first | ((with_reducible refine gate_callee (f := 69) rfl ?_); refine goesB (some 14) rfl rfl Try.func69 #[.slice A0 l0.length c0, .slice A1 l1.length c1, .int .i64 a2] rfl ?_; (with_reducible refine (stickfulref12_Pens.calls k _ _ l0 _ _ l1 a2 t314 t315 _ ?side1 ?side2 ?side3 ?side4 A4.out).mono ?_); (case side1 => repeat (first | exact HR0.out | (with_reducible refine Kd.C_alloc ?_ _) | (with_reducible refine Kd.C_drewN ?_ _) | (with_reducible refine Kd.C_drew ?_))); (case side2 => exact HC0.out); (case side3 => repeat (first | exact HR1.out | (with_reducible refine Kd.C_alloc ?_ _) | (with_reducible refine Kd.C_drewN ?_ _) | (with_reducible refine Kd.C_drew ?_))); (case side4 => exact HC1.out); rintro e w9 ⟨v316, rfl, ho0, hb⟩; refine ⟨_, rfl, ?_⟩; have HO317 := Aside0.mk (Kd.R_lower ho0 (below_size (bw HB))); replace HB := bh HB hb; (try clear hb); (try clear hb2); (try clear hk); (try clear hi); (try clear ho0); obtain ⟨Ao10, co10, eo10⟩ := Kd.R_slice HO317.out; subst eo10; have p318 : 0 ≤ ((ji6) : Int) := of_decide_eq_true (by first | (with_reducible assumption) | assumption); have q318 : (ji6) < (t314.length : Int) := of_decide_eq_true (by first | (with_reducible assumption) | assumption); obtain ⟨ad318, e318, hx318_0⟩ := Kd.at_int (Kd.R_reads' HO317.out).2.2 (ji6) p318 q318; cases e318; replace p318 := eq_true p318; replace q318 := eq_true q318))
    go_ret2
    exact ⟨by first | rfl | (simp [errW_none, errW_some] <;> rfl) | (simp only [← hji6]; first | rfl | (simp [errW_none, errW_some] <;> rfl)) | (simp [*, errW_none, errW_some] <;> rfl), by repeat (first | (with_reducible first | exact HB.out | apply below_alloc | apply pw_below_drewN | apply below_drew1) | exact HB.out)⟩
   ·rw [if_neg c8] at H
    exact absurd H (by simp)
  ·rw [if_neg c7] at H
   exact absurd H (by simp)
 ·rw [if_neg c5] at H
  have c5b0 : (t315 == 0) = false := beq_eq_false_iff_ne.mpr c5
  have c5b1 : (t315 != 0) = true := bne_iff_ne.mpr c5
  simp only [Option.some.injEq, Prod.mk.injEq] at H
  obtain ⟨rfl, rfl⟩ := H
  go_enter Try.func63, Try.ntmps63
  go_wp2_with (first | ((with_reducible refine gate_callee (f := 69) rfl ?_); refine goesB (some 14) rfl rfl Try.func69 #[.slice A0 l0.length c0, .slice A1 l1.length c1, .int .i64 a2] rfl ?_; (with_reducible refine (stickfulref12_Pens.calls k _ _ l0 _ _ l1 a2 t314 t315 _ ?side1 ?side2 ?side3 ?side4 A4.out).mono ?_); (case side1 => repeat (first | exact HR0.out | (with_reducible refine Kd.C_alloc ?_ _) | (with_reducible refine Kd.C_drewN ?_ _) | (with_reducible refine Kd.C_drew ?_))); (case side2 => exact HC0.out); (case side3 => repeat (first | exact HR1.out | (with_reducible refine Kd.C_alloc ?_ _) | (with_reducible refine Kd.C_drewN ?_ _) | (with_reducible refine Kd.C_drew ?_))); (case side4 => exact HC1.out); rintro e w11 ⟨v316, rfl, ho0, hb⟩; refine ⟨_, rfl, ?_⟩; have HO317 := Aside0.mk (Kd.R_lower ho0 (below_size (bw HB))); replace HB := bh HB hb; (try clear hb); (try clear hb2); (try clear hk); (try clear hi); (try clear ho0)))
  go_ret2
  exact ⟨by first | rfl | (simp [errW_none, errW_some] <;> rfl) | (simp [*, errW_none, errW_some] <;> rfl), by repeat (first | (with_reducible first | exact HB.out | apply below_alloc | apply pw_below_drewN | apply below_drew1) | exact HB.out)⟩

end Go.Proofs.Ytdmlnkgpjileaaa.HFirst
