-- Written by this claim's own program over the kit's print.
import Derived.Test.YtkaiibipcnlaiaaHEllb
import Derived.Test.YtkaiibipcnlaiaaHEllx0
import Derived.Test.YtkaiibipcnlaiaaHEllx1
import Derived.Test.YtkaiibipcnlaiaaHEllx2
import Derived.Test.YtkaiibipcnlaiaaHEllx14
import Derived.Test.YtkaiibipcnlaiaaHEllx15
namespace Go.Proofs.Ytkaiibipcnlaiaa.HEll
open Go.RowKit Go.Proofs.YtkaiibipcnlaiaaW.PrintWords Go.Proofs.YtkaiibipcnlaiaaW.PrintLast Go.Proofs.YtkaiibipcnlaiaaW.PrintMore Go.Proofs.Ytkaiibipcnlaiaa.Hand
attribute [local go_sem] max2_int min2_int max_two min_two max_three min_three max_four min_four   -- for this text's walks alone
set_option linter.unusedVariables false
set_option linter.unusedSimpArgs false

/-! ### stickfullaw26_EllipsisGrows: function 5 -/
mutual
def stickfullaw26_EllipsisGrows.j0 : Nat → Bool → List (S53) → List Bool → Int → Int → Bool → Int → Int → Int → Int → Int → Option (Bool)
 | 0, _, _, _, _, _, _, _, _, _, _, _ => none
 | k + 1, x47, x333000, x333001, x333002, x333003, x333004, x333005, x334000, x334001, x335000, x335001 => if x47 = true then ((stickfullaw26_head.f k).bind fun t336 => (some t336)) else (stickfullaw26_EllipsisGrows.l0 k 0 x333000 x333001 x333002 x333003 x333004 x333005 x334000 x334001 x335000 x335001)
def stickfullaw26_EllipsisGrows.l0 : Nat → Int → List (S53) → List Bool → Int → Int → Bool → Int → Int → Int → Int → Int → Option (Bool)
 | 0, _, _, _, _, _, _, _, _, _, _, _ => none
 | k + 1, x7, x333000, x333001, x333002, x333003, x333004, x333005, x334000, x334001, x335000, x335001 => if x7 < (x333000.length : Int) then (if 0 ≤ x7 then (if ((rd_T53 x333000 x7).f3) < 0 then ((stickfullaw26_head.f k).bind fun t338 => (some t338)) else (stickfullaw26_EllipsisGrows.l0 k (wrap64 (x7 + 1)) x333000 x333001 x333002 x333003 x333004 x333005 x334000 x334001 x335000 x335001)) else (none)) else ((ellipsis_Cut.f x333000 x333001 x333002 x333003 x333004 x334000 x334001 x333005).bind fun bt339 => ((ellipsis_Cut.f x333000 x333001 x333002 x333003 x333004 (wrap64 (x334000 + x335000)) x334001 x333005).bind fun bt344 => ((ellipsis_Cut.f x333000 x333001 x333002 x333003 x333004 x334000 x334001 (mn (wrap64 (x333005 + x335001)) 1073741824)).bind fun bt348 => (if bt339.2.2.2 = 0 then (if bt344.2.2.2 = 0 then (stickfullaw26_EllipsisGrows.j2 k bt339.1 bt339.2.2.2 bt344.1 bt344.2.2.2 bt348.1 (bt348.2.2.2 != 0) x334000 x334001) else (stickfullaw26_EllipsisGrows.j2 k bt339.1 bt339.2.2.2 bt344.1 bt344.2.2.2 bt348.1 true x334000 x334001)) else (stickfullaw26_EllipsisGrows.j2 k bt339.1 bt339.2.2.2 bt344.1 bt344.2.2.2 bt348.1 true x334000 x334001)))))
def stickfullaw26_EllipsisGrows.j2 : Nat → Int → Int → Int → Int → Int → Bool → Int → Int → Option (Bool)
 | 0, _, _, _, _, _, _, _, _ => none
 | k + 1, x8, x11, x13, x16, x17, x129, x334000, x334001 => if x129 = true then (if x11 = x16 then ((stickfullaw26_head.f k).bind fun t352 => (some t352)) else (if x334000 < 0 then ((stickfullaw26_head.f k).bind fun t353 => (some t353)) else (some false))) else (if x13 ≥ x8 then (if x17 ≤ x8 then ((stickfullaw26_head.f k).bind fun t354 => (some t354)) else (some false)) else (some false))
end
def stickfullaw26_EllipsisGrows.f (k : Nat) (l0_0 : List (S53)) (l0_1 : List Bool) (a0_2 a0_3 : Int) (a0_4 : Bool) (a0_5 a1_0 a1_1 a2_0 a2_1 : Int) : Option (Bool) := (stickfullaw26_great.f l0_0 l0_1 a0_2 a0_3 a0_4 a0_5).bind fun t335 => (if t335 = true then (stickfullaw26_EllipsisGrows.j0 k true l0_0 l0_1 a0_2 a0_3 a0_4 a0_5 a1_0 a1_1 a2_0 a2_1) else (if a2_0 < 0 then (stickfullaw26_EllipsisGrows.j0 k true l0_0 l0_1 a0_2 a0_3 a0_4 a0_5 a1_0 a1_1 a2_0 a2_1) else (if a2_1 < 0 then (stickfullaw26_EllipsisGrows.j0 k true l0_0 l0_1 a0_2 a0_3 a0_4 a0_5 a1_0 a1_1 a2_0 a2_1) else (if a2_0 > 1099511627776 then (stickfullaw26_EllipsisGrows.j0 k true l0_0 l0_1 a0_2 a0_3 a0_4 a0_5 a1_0 a1_1 a2_0 a2_1) else (if a2_1 > 1099511627776 then (stickfullaw26_EllipsisGrows.j0 k true l0_0 l0_1 a0_2 a0_3 a0_4 a0_5 a1_0 a1_1 a2_0 a2_1) else (stickfullaw26_EllipsisGrows.j0 k (decide (a1_0 > 1125899906842624)) l0_0 l0_1 a0_2 a0_3 a0_4 a0_5 a1_0 a1_1 a2_0 a2_1))))))
theorem stickfullaw26_EllipsisGrows.mono_l : ∀ k, (∀ y0 y1 y2 y3 y4 y5 y6 y7 y8 y9 y10, LeO (stickfullaw26_EllipsisGrows.j0 k y0 y1 y2 y3 y4 y5 y6 y7 y8 y9 y10) (stickfullaw26_EllipsisGrows.j0 (k + 1) y0 y1 y2 y3 y4 y5 y6 y7 y8 y9 y10)) ∧ (∀ y0 y1 y2 y3 y4 y5 y6 y7 y8 y9 y10, LeO (stickfullaw26_EllipsisGrows.l0 k y0 y1 y2 y3 y4 y5 y6 y7 y8 y9 y10) (stickfullaw26_EllipsisGrows.l0 (k + 1) y0 y1 y2 y3 y4 y5 y6 y7 y8 y9 y10)) ∧ (∀ y0 y1 y2 y3 y4 y5 y6 y7, LeO (stickfullaw26_EllipsisGrows.j2 k y0 y1 y2 y3 y4 y5 y6 y7) (stickfullaw26_EllipsisGrows.j2 (k + 1) y0 y1 y2 y3 y4 y5 y6 y7))
 | 0 => ⟨fun _ _ _ _ _ _ _ _ _ _ _ r h => by simp [stickfullaw26_EllipsisGrows.j0] at h, fun _ _ _ _ _ _ _ _ _ _ _ r h => by simp [stickfullaw26_EllipsisGrows.l0] at h, fun _ _ _ _ _ _ _ _ r h => by simp [stickfullaw26_EllipsisGrows.j2] at h⟩
 | k + 1 => by
  obtain ⟨ih0, ih1, ih2⟩ := stickfullaw26_EllipsisGrows.mono_l k
  refine ⟨?_, ?_, ?_⟩
  ·intro y0 y1 y2 y3 y4 y5 y6 y7 y8 y9 y10
   unfold stickfullaw26_EllipsisGrows.j0
   repeat' first
   | (with_reducible exact ih0 _ _ _ _ _ _ _ _ _ _ _)
   | (with_reducible exact ih1 _ _ _ _ _ _ _ _ _ _ _)
   | (with_reducible exact ih2 _ _ _ _ _ _ _ _)
   | (with_reducible exact stickfullaw26_head.mono _)
   | (with_reducible exact LeO.refl _)
   | (with_reducible exact LeO.none _)
   | (with_reducible refine LeO.ite ?_ ?_)
   | (with_reducible refine LeO.bind ?_ (fun _ => ?_))
   | exact ih0 _ _ _ _ _ _ _ _ _ _ _
   | exact ih1 _ _ _ _ _ _ _ _ _ _ _
   | exact ih2 _ _ _ _ _ _ _ _
   | exact stickfullaw26_head.mono _
   | exact LeO.none _
   | refine LeO.ite ?_ ?_
   | refine LeO.bind ?_ (fun _ => ?_)
  ·intro y0 y1 y2 y3 y4 y5 y6 y7 y8 y9 y10
   unfold stickfullaw26_EllipsisGrows.l0
   repeat' first
   | (with_reducible exact ih0 _ _ _ _ _ _ _ _ _ _ _)
   | (with_reducible exact ih1 _ _ _ _ _ _ _ _ _ _ _)
   | (with_reducible exact ih2 _ _ _ _ _ _ _ _)
   | (with_reducible exact stickfullaw26_head.mono _)
   | (with_reducible exact LeO.refl _)
   | (with_reducible exact LeO.none _)
   | (with_reducible refine LeO.ite ?_ ?_)
   | (with_reducible refine LeO.bind ?_ (fun _ => ?_))
   | exact ih0 _ _ _ _ _ _ _ _ _ _ _
   | exact ih1 _ _ _ _ _ _ _ _ _ _ _
   | exact ih2 _ _ _ _ _ _ _ _
   | exact stickfullaw26_head.mono _
   | exact LeO.none _
   | refine LeO.ite ?_ ?_
   | refine LeO.bind ?_ (fun _ => ?_)
  ·intro y0 y1 y2 y3 y4 y5 y6 y7
   unfold stickfullaw26_EllipsisGrows.j2
   repeat' first
   | (with_reducible exact ih0 _ _ _ _ _ _ _ _ _ _ _)
   | (with_reducible exact ih1 _ _ _ _ _ _ _ _ _ _ _)
   | (with_reducible exact ih2 _ _ _ _ _ _ _ _)
   | (with_reducible exact stickfullaw26_head.mono _)
   | (with_reducible exact LeO.refl _)
   | (with_reducible exact LeO.none _)
   | (with_reducible refine LeO.ite ?_ ?_)
   | (with_reducible refine LeO.bind ?_ (fun _ => ?_))
   | exact ih0 _ _ _ _ _ _ _ _ _ _ _
   | exact ih1 _ _ _ _ _ _ _ _ _ _ _
   | exact ih2 _ _ _ _ _ _ _ _
   | exact stickfullaw26_head.mono _
   | exact LeO.none _
   | refine LeO.ite ?_ ?_
   | refine LeO.bind ?_ (fun _ => ?_)
theorem stickfullaw26_EllipsisGrows.mono : ∀ a0 a1 a2 a3 a4 a5 a6 a7 a8 a9 k, LeO (stickfullaw26_EllipsisGrows.f k a0 a1 a2 a3 a4 a5 a6 a7 a8 a9) (stickfullaw26_EllipsisGrows.f (k + 1) a0 a1 a2 a3 a4 a5 a6 a7 a8 a9) := by
 intro a0 a1 a2 a3 a4 a5 a6 a7 a8 a9 k
 obtain ⟨ih0, ih1, ih2⟩ := stickfullaw26_EllipsisGrows.mono_l k
 unfold stickfullaw26_EllipsisGrows.f
 repeat' first
   | (with_reducible exact ih0 _ _ _ _ _ _ _ _ _ _ _)
   | (with_reducible exact ih1 _ _ _ _ _ _ _ _ _ _ _)
   | (with_reducible exact ih2 _ _ _ _ _ _ _ _)
   | (with_reducible exact stickfullaw26_head.mono _)
   | (with_reducible exact LeO.refl _)
   | (with_reducible exact LeO.none _)
   | (with_reducible refine LeO.ite ?_ ?_)
   | (with_reducible refine LeO.bind ?_ (fun _ => ?_))
   | exact ih0 _ _ _ _ _ _ _ _ _ _ _
   | exact ih1 _ _ _ _ _ _ _ _ _ _ _
   | exact ih2 _ _ _ _ _ _ _ _
   | exact stickfullaw26_head.mono _
   | exact LeO.none _
   | refine LeO.ite ?_ ?_
   | refine LeO.bind ?_ (fun _ => ?_)
set_option maxHeartbeats 8000000 in
set_option maxRecDepth 100000 in
theorem stickfullaw26_EllipsisGrows.calls_t (k : Nat) (A0_0 : Option Addr) (c0_0 : Nat) (l0_0 : List (S53)) (A0_1 : Option Addr) (c0_1 : Nat) (l0_1 : List Bool) (a0_2 a0_3 : Int) (a0_4 : Bool) (a0_5 a1_0 a1_1 a2_0 a2_1 : Int) (r : Bool) (w : World) (hr0_0 : Kd.C k53 w A0_0 l0_0.length l0_0) (hc0_0 : l0_0.length ≤ c0_0) (hr0_1 : Kd.C Kd.bool w A0_1 l0_1.length l0_1) (hc0_1 : l0_1.length ≤ c0_1) (h : stickfullaw26_EllipsisGrows.f k l0_0 l0_1 a0_2 a0_3 a0_4 a0_5 a1_0 a1_1 a2_0 a2_1 = some r) (hr_ : r = true) :
  Calls Try.prog 5 #[.agg #[.slice A0_0 l0_0.length c0_0, .slice A0_1 l0_1.length c0_1, .int .i64 a0_2, .int .i64 a0_3, .bool a0_4, .int .i64 a0_5], .agg #[.int .i64 a1_0, .int .i64 a1_1], .agg #[.int .i64 a2_0, .int .i64 a2_1]] w fun e w' => e = .returned (.bool r) ∧ Below w.heap.size w w' := by
 have hu27 := Try.underlying27
 have hu29 := Try.underlying29
 have hu51 := Try.underlying51
 have hu25 := Try.underlying25
 have HR_ := Aside0.mk hr_
 clear hr_
 have HR0_0 := Aside0.mk hr0_0
 have HC0_0 := Aside0.mk hc0_0
 clear hr0_0 hc0_0
 have HR0_1 := Aside0.mk hr0_1
 have HC0_1 := Aside0.mk hc0_1
 clear hr0_1 hc0_1
 have HB := Aside0.mk (Below.refl w.heap.size w)
 have H : ((stickfullaw26_great.f l0_0 l0_1 a0_2 a0_3 a0_4 a0_5).bind fun t335 => (if t335 = true then (stickfullaw26_EllipsisGrows.j0 k true l0_0 l0_1 a0_2 a0_3 a0_4 a0_5 a1_0 a1_1 a2_0 a2_1) else (if a2_0 < 0 then (stickfullaw26_EllipsisGrows.j0 k true l0_0 l0_1 a0_2 a0_3 a0_4 a0_5 a1_0 a1_1 a2_0 a2_1) else (if a2_1 < 0 then (stickfullaw26_EllipsisGrows.j0 k true l0_0 l0_1 a0_2 a0_3 a0_4 a0_5 a1_0 a1_1 a2_0 a2_1) else (if a2_0 > 1099511627776 then (stickfullaw26_EllipsisGrows.j0 k true l0_0 l0_1 a0_2 a0_3 a0_4 a0_5 a1_0 a1_1 a2_0 a2_1) else (if a2_1 > 1099511627776 then (stickfullaw26_EllipsisGrows.j0 k true l0_0 l0_1 a0_2 a0_3 a0_4 a0_5 a1_0 a1_1 a2_0 a2_1) else (stickfullaw26_EllipsisGrows.j0 k (decide (a1_0 > 1125899906842624)) l0_0 l0_1 a0_2 a0_3 a0_4 a0_5 a1_0 a1_1 a2_0 a2_1))))))) = some r := h
 clear h
 have HC4 := Aside0.mk H
 clear H
 go_enter Try.func5, Try.ntmps5
 go_upto_region 1 with (first | ((with_reducible refine gate_dst (N := 3) rfl ?_); refine box_event ?hg (N := 3) ?hd (cs := #[.slice A0_0 l0_0.length c0_0, .slice A0_1 l0_1.length c0_1, .int .i64 a0_2, .int .i64 a0_3, .bool a0_4, .int .i64 a0_5]) (t := 27) ?hr ?_; (case hd => rfl); (case hg => rfl); (case hr => first | (go_simp; done) | (go_simp; rfl)); intro gb332 hg w5 hbox hb; have BK332 := Aside0.mk (hbox); have GW332 := bge HB hg; have GE332 := bge HB hg; replace HB := bh HB hb; clear hb hbox hg) | ((with_reducible refine gate_dst (N := 4) rfl ?_); refine box_event ?hg (N := 4) ?hd (cs := #[.int .i64 a1_0, .int .i64 a1_1]) (t := 29) ?hr ?_; (case hd => rfl); (case hg => rfl); (case hr => first | (go_simp; done) | (go_simp; rfl)); intro gb333 hg w6 hbox hb; have BK333 := Aside0.mk (hbox); have GW333 := bge HB hg; have GE333 := bge HB hg; replace HB := bh HB hb; have NB332_333 := nbl BK332 hg; have NB333_332 := nbg BK332 hg; replace BK332 := bb BK332 hb; clear hb hbox hg) | ((with_reducible refine gate_dst (N := 5) rfl ?_); refine box_event ?hg (N := 5) ?hd (cs := #[.int .i64 a2_0, .int .i64 a2_1]) (t := 51) ?hr ?_; (case hd => rfl); (case hg => rfl); (case hr => first | (go_simp; done) | (go_simp; rfl)); intro gb334 hg w7 hbox hb; have BK334 := Aside0.mk (hbox); have GW334 := bge HB hg; have GE334 := bge HB hg; replace HB := bh HB hb; have NB332_334 := nbl BK332 hg; have NB334_332 := nbg BK332 hg; replace BK332 := bb BK332 hb; have NB333_334 := nbl BK333 hg; have NB334_333 := nbg BK333 hg; replace BK333 := bb BK333 hb; clear hb hbox hg))
 (try simp only [Act.put, List.setIfInBounds_toArray, List.set_cons_zero, List.set_cons_succ])
 go_cut [47] (fun v47 wc => ∃ (kq : Nat) (x47_3 : Bool), v47 = .bool x47_3 ∧ Aside0 (stickfullaw26_EllipsisGrows.j0 kq x47_3 l0_0 l0_1 a0_2 a0_3 a0_4 a0_5 a1_0 a1_1 a2_0 a2_1 = some r) ∧ Aside0 (kq ≤ k) ∧ Aside0 (wc.heap[gb332]? = some (.cells #[(.slice A0_0 l0_0.length c0_0), (.slice A0_1 l0_1.length c0_1), .int .i64 a0_2, .int .i64 a0_3, .bool a0_4, .int .i64 a0_5] 27 (0, 0))) ∧ Aside0 (wc.heap[gb333]? = some (.cells #[.int .i64 a1_0, .int .i64 a1_1] 29 (0, 0))) ∧ Aside0 (wc.heap[gb334]? = some (.cells #[.int .i64 a2_0, .int .i64 a2_1] 51 (0, 0))) ∧ Aside0 (Below w.heap.size w wc))
 case first =>
  have H := HC4.out
  clear HC4
  replace H := Option.bind_eq_some_iff.mp H
  obtain ⟨t335, A80, H⟩ := H
  replace H : (if t335 = true then (stickfullaw26_EllipsisGrows.j0 k true l0_0 l0_1 a0_2 a0_3 a0_4 a0_5 a1_0 a1_1 a2_0 a2_1) else (if a2_0 < 0 then (stickfullaw26_EllipsisGrows.j0 k true l0_0 l0_1 a0_2 a0_3 a0_4 a0_5 a1_0 a1_1 a2_0 a2_1) else (if a2_1 < 0 then (stickfullaw26_EllipsisGrows.j0 k true l0_0 l0_1 a0_2 a0_3 a0_4 a0_5 a1_0 a1_1 a2_0 a2_1) else (if a2_0 > 1099511627776 then (stickfullaw26_EllipsisGrows.j0 k true l0_0 l0_1 a0_2 a0_3 a0_4 a0_5 a1_0 a1_1 a2_0 a2_1) else (if a2_1 > 1099511627776 then (stickfullaw26_EllipsisGrows.j0 k true l0_0 l0_1 a0_2 a0_3 a0_4 a0_5 a1_0 a1_1 a2_0 a2_1) else (stickfullaw26_EllipsisGrows.j0 k (decide (a1_0 > 1125899906842624)) l0_0 l0_1 a0_2 a0_3 a0_4 a0_5 a1_0 a1_1 a2_0 a2_1)))))) = some r := H
  have A8 := Aside0.mk A80
  clear A80
  by_cases c9 : t335 = true
  ·subst c9
   have H1 : (stickfullaw26_EllipsisGrows.j0 k true l0_0 l0_1 a0_2 a0_3 a0_4 a0_5 a1_0 a1_1 a2_0 a2_1) = some r := by rw [if_pos rfl] at H; exact H
   clear H
   have H := H1
   clear H1
   have H' := Aside0.mk H
   clear H
   have hnb10 := NB332_333.out
   have hnc10 := NB333_332.out
   have hnb11 := NB332_334.out
   have hnc11 := NB334_332.out
   obtain ⟨hcz12_0, hcz12_1, hcz12_2, hcz12_3, hcz12_4, hcz12_5⟩ := cz6 BK332
   obtain ⟨hfz12_0, hfz12_1, hfz12_2, hfz12_3, hfz12_4, hfz12_5⟩ := fz6 BK332
   go_wp2_with (first | ((with_reducible refine gate_callee (f := 8) rfl ?_); refine goesB (some 22) rfl rfl Try.func8 #[.agg #[.slice A0_0 l0_0.length c0_0, .slice A0_1 l0_1.length c0_1, .int .i64 a0_2, .int .i64 a0_3, .bool a0_4, .int .i64 a0_5]] rfl ?_; (with_reducible refine (stickfullaw26_great.calls _ _ l0_0 _ _ l0_1 a0_2 a0_3 a0_4 a0_5 true _ ?side1 ?side2 ?side3 ?side4 A8.out).mono ?_); (case side1 => repeat (first | exact (Kd.C_below HR0_0.out HB.out) | (with_reducible refine Kd.C_alloc ?_ _) | (with_reducible refine Kd.C_drewN ?_ _) | (with_reducible refine Kd.C_drew ?_))); (case side2 => exact HC0_0.out); (case side3 => repeat (first | exact (Kd.C_below HR0_1.out HB.out) | (with_reducible refine Kd.C_alloc ?_ _) | (with_reducible refine Kd.C_drewN ?_ _) | (with_reducible refine Kd.C_drew ?_))); (case side4 => exact HC0_1.out); rintro e w13 ⟨rfl, hb⟩; refine ⟨_, rfl, ?_⟩; replace BK332 := bb BK332 hb; replace BK333 := bb BK333 hb; replace BK334 := bb BK334 hb; replace HB := bh HB hb; (try clear hb); (try clear hb2); (try clear hk); (try clear hi)))
   go_meet
   case rel => exact ⟨_, (true), (by first | rfl | (simp; done) | (simp [*]; done)), H', ⟨by first | omega | exact Nat.le_refl _⟩, ⟨by (with_reducible repeat (first | refine blk_drewN ?_ _ | refine blk_drew ?_ | refine blk_alloc ?_ _)); exact BK332.out⟩, ⟨by (with_reducible repeat (first | refine blk_drewN ?_ _ | refine blk_drew ?_ | refine blk_alloc ?_ _)); exact BK333.out⟩, ⟨by (with_reducible repeat (first | refine blk_drewN ?_ _ | refine blk_drew ?_ | refine blk_alloc ?_ _)); exact BK334.out⟩, ⟨by repeat (first | (with_reducible first | exact HB.out | apply below_alloc | apply pw_below_drewN | apply below_drew1 | refine below_set ?_ GE332.out | refine below_set ?_ GE333.out | refine below_set ?_ GE334.out) | exact HB.out)⟩⟩
  ·replace c9 := Bool.eq_false_iff.mpr c9
   subst c9
   have H1 : (if a2_0 < 0 then (stickfullaw26_EllipsisGrows.j0 k true l0_0 l0_1 a0_2 a0_3 a0_4 a0_5 a1_0 a1_1 a2_0 a2_1) else (if a2_1 < 0 then (stickfullaw26_EllipsisGrows.j0 k true l0_0 l0_1 a0_2 a0_3 a0_4 a0_5 a1_0 a1_1 a2_0 a2_1) else (if a2_0 > 1099511627776 then (stickfullaw26_EllipsisGrows.j0 k true l0_0 l0_1 a0_2 a0_3 a0_4 a0_5 a1_0 a1_1 a2_0 a2_1) else (if a2_1 > 1099511627776 then (stickfullaw26_EllipsisGrows.j0 k true l0_0 l0_1 a0_2 a0_3 a0_4 a0_5 a1_0 a1_1 a2_0 a2_1) else (stickfullaw26_EllipsisGrows.j0 k (decide (a1_0 > 1125899906842624)) l0_0 l0_1 a0_2 a0_3 a0_4 a0_5 a1_0 a1_1 a2_0 a2_1))))) = some r := by rw [if_neg (show ¬ (false = true) by decide)] at H; exact H
   clear H
   have H := H1
   clear H1
   by_cases c14 : a2_0 < 0
   ·rw [if_pos c14] at H
    have c14b0 : decide (a2_0 < 0) = true := decide_eq_true c14
    clear c14
    (first | rw [c14b0] | (simp only [i64_w, i32_w]; rw [c14b0]) | skip)
    have H' := Aside0.mk H
    clear H
    have hnb15 := NB332_333.out
    have hnc15 := NB333_332.out
    have hnb16 := NB332_334.out
    have hnc16 := NB334_332.out
    obtain ⟨hcz17_0, hcz17_1, hcz17_2, hcz17_3, hcz17_4, hcz17_5⟩ := cz6 BK332
    obtain ⟨hfz17_0, hfz17_1, hfz17_2, hfz17_3, hfz17_4, hfz17_5⟩ := fz6 BK332
    go_wp2_with (first | ((with_reducible refine gate_callee (f := 8) rfl ?_); refine goesB (some 22) rfl rfl Try.func8 #[.agg #[.slice A0_0 l0_0.length c0_0, .slice A0_1 l0_1.length c0_1, .int .i64 a0_2, .int .i64 a0_3, .bool a0_4, .int .i64 a0_5]] rfl ?_; (with_reducible refine (stickfullaw26_great.calls _ _ l0_0 _ _ l0_1 a0_2 a0_3 a0_4 a0_5 false _ ?side1 ?side2 ?side3 ?side4 A8.out).mono ?_); (case side1 => repeat (first | exact (Kd.C_below HR0_0.out HB.out) | (with_reducible refine Kd.C_alloc ?_ _) | (with_reducible refine Kd.C_drewN ?_ _) | (with_reducible refine Kd.C_drew ?_))); (case side2 => exact HC0_0.out); (case side3 => repeat (first | exact (Kd.C_below HR0_1.out HB.out) | (with_reducible refine Kd.C_alloc ?_ _) | (with_reducible refine Kd.C_drewN ?_ _) | (with_reducible refine Kd.C_drew ?_))); (case side4 => exact HC0_1.out); rintro e w18 ⟨rfl, hb⟩; refine ⟨_, rfl, ?_⟩; replace BK332 := bb BK332 hb; replace BK333 := bb BK333 hb; replace BK334 := bb BK334 hb; replace HB := bh HB hb; (try clear hb); (try clear hb2); (try clear hk); (try clear hi); have hnb19 := NB334_333.out; have hnc19 := NB333_334.out; obtain ⟨hcz20_0, hcz20_1⟩ := cz2 BK334; obtain ⟨hfz20_0, hfz20_1⟩ := fz2 BK334))
    go_meet
    case rel => exact ⟨_, (true), (by first | rfl | (simp; done) | (simp [*]; done)), H', ⟨by first | omega | exact Nat.le_refl _⟩, ⟨by (with_reducible repeat (first | refine blk_drewN ?_ _ | refine blk_drew ?_ | refine blk_alloc ?_ _)); exact BK332.out⟩, ⟨by (with_reducible repeat (first | refine blk_drewN ?_ _ | refine blk_drew ?_ | refine blk_alloc ?_ _)); exact BK333.out⟩, ⟨by (with_reducible repeat (first | refine blk_drewN ?_ _ | refine blk_drew ?_ | refine blk_alloc ?_ _)); exact BK334.out⟩, ⟨by repeat (first | (with_reducible first | exact HB.out | apply below_alloc | apply pw_below_drewN | apply below_drew1 | refine below_set ?_ GE332.out | refine below_set ?_ GE333.out | refine below_set ?_ GE334.out) | exact HB.out)⟩⟩
   ·rw [if_neg c14] at H
    have c14b0 : decide (a2_0 < 0) = false := decide_eq_false c14
    clear c14
    (first | rw [c14b0] | (simp only [i64_w, i32_w]; rw [c14b0]) | skip)
    by_cases c21 : a2_1 < 0
    ·rw [if_pos c21] at H
     have c21b0 : decide (a2_1 < 0) = true := decide_eq_true c21
     clear c21
     have H' := Aside0.mk H
     clear H
     have hnb22 := NB332_333.out
     have hnc22 := NB333_332.out
     have hnb23 := NB332_334.out
     have hnc23 := NB334_332.out
     obtain ⟨hcz24_0, hcz24_1, hcz24_2, hcz24_3, hcz24_4, hcz24_5⟩ := cz6 BK332
     obtain ⟨hfz24_0, hfz24_1, hfz24_2, hfz24_3, hfz24_4, hfz24_5⟩ := fz6 BK332
     go_wp2_with (first | ((with_reducible refine gate_callee (f := 8) rfl ?_); refine goesB (some 22) rfl rfl Try.func8 #[.agg #[.slice A0_0 l0_0.length c0_0, .slice A0_1 l0_1.length c0_1, .int .i64 a0_2, .int .i64 a0_3, .bool a0_4, .int .i64 a0_5]] rfl ?_; (with_reducible refine (stickfullaw26_great.calls _ _ l0_0 _ _ l0_1 a0_2 a0_3 a0_4 a0_5 false _ ?side1 ?side2 ?side3 ?side4 A8.out).mono ?_); (case side1 => repeat (first | exact (Kd.C_below HR0_0.out HB.out) | (with_reducible refine Kd.C_alloc ?_ _) | (with_reducible refine Kd.C_drewN ?_ _) | (with_reducible refine Kd.C_drew ?_))); (case side2 => exact HC0_0.out); (case side3 => repeat (first | exact (Kd.C_below HR0_1.out HB.out) | (with_reducible refine Kd.C_alloc ?_ _) | (with_reducible refine Kd.C_drewN ?_ _) | (with_reducible refine Kd.C_drew ?_))); (case side4 => exact HC0_1.out); rintro e w25 ⟨rfl, hb⟩; refine ⟨_, rfl, ?_⟩; replace BK332 := bb BK332 hb; replace BK333 := bb BK333 hb; replace BK334 := bb BK334 hb; replace HB := bh HB hb; (try clear hb); (try clear hb2); (try clear hk); (try clear hi); have hnb26 := NB334_333.out; have hnc26 := NB333_334.out; obtain ⟨hcz27_0, hcz27_1⟩ := cz2 BK334; obtain ⟨hfz27_0, hfz27_1⟩ := fz2 BK334))
     go_meet
     case rel => exact ⟨_, (true), (by first | rfl | (simp; done) | (simp [*]; done)), H', ⟨by first | omega | exact Nat.le_refl _⟩, ⟨by (with_reducible repeat (first | refine blk_drewN ?_ _ | refine blk_drew ?_ | refine blk_alloc ?_ _)); exact BK332.out⟩, ⟨by (with_reducible repeat (first | refine blk_drewN ?_ _ | refine blk_drew ?_ | refine blk_alloc ?_ _)); exact BK333.out⟩, ⟨by (with_reducible repeat (first | refine blk_drewN ?_ _ | refine blk_drew ?_ | refine blk_alloc ?_ _)); exact BK334.out⟩, ⟨by repeat (first | (with_reducible first | exact HB.out | apply below_alloc | apply pw_below_drewN | apply below_drew1 | refine below_set ?_ GE332.out | refine below_set ?_ GE333.out | refine below_set ?_ GE334.out) | exact HB.out)⟩⟩
    ·rw [if_neg c21] at H
     have c21b0 : decide (a2_1 < 0) = false := decide_eq_false c21
     clear c21
     by_cases c28 : a2_0 > 1099511627776
     ·rw [if_pos c28] at H
      have c28b0 : decide (1099511627776 < a2_0) = true := decide_eq_true c28
      clear c28
      have H' := Aside0.mk H
      clear H
      have hnb29 := NB332_333.out
      have hnc29 := NB333_332.out
      have hnb30 := NB332_334.out
      have hnc30 := NB334_332.out
      obtain ⟨hcz31_0, hcz31_1, hcz31_2, hcz31_3, hcz31_4, hcz31_5⟩ := cz6 BK332
      obtain ⟨hfz31_0, hfz31_1, hfz31_2, hfz31_3, hfz31_4, hfz31_5⟩ := fz6 BK332
      go_wp2_with (first | ((with_reducible refine gate_callee (f := 8) rfl ?_); refine goesB (some 22) rfl rfl Try.func8 #[.agg #[.slice A0_0 l0_0.length c0_0, .slice A0_1 l0_1.length c0_1, .int .i64 a0_2, .int .i64 a0_3, .bool a0_4, .int .i64 a0_5]] rfl ?_; (with_reducible refine (stickfullaw26_great.calls _ _ l0_0 _ _ l0_1 a0_2 a0_3 a0_4 a0_5 false _ ?side1 ?side2 ?side3 ?side4 A8.out).mono ?_); (case side1 => repeat (first | exact (Kd.C_below HR0_0.out HB.out) | (with_reducible refine Kd.C_alloc ?_ _) | (with_reducible refine Kd.C_drewN ?_ _) | (with_reducible refine Kd.C_drew ?_))); (case side2 => exact HC0_0.out); (case side3 => repeat (first | exact (Kd.C_below HR0_1.out HB.out) | (with_reducible refine Kd.C_alloc ?_ _) | (with_reducible refine Kd.C_drewN ?_ _) | (with_reducible refine Kd.C_drew ?_))); (case side4 => exact HC0_1.out); rintro e w32 ⟨rfl, hb⟩; refine ⟨_, rfl, ?_⟩; replace BK332 := bb BK332 hb; replace BK333 := bb BK333 hb; replace BK334 := bb BK334 hb; replace HB := bh HB hb; (try clear hb); (try clear hb2); (try clear hk); (try clear hi); have hnb33 := NB334_333.out; have hnc33 := NB333_334.out; obtain ⟨hcz34_0, hcz34_1⟩ := cz2 BK334; obtain ⟨hfz34_0, hfz34_1⟩ := fz2 BK334))
      go_meet
      case rel => exact ⟨_, (true), (by first | rfl | (simp; done) | (simp [*]; done)), H', ⟨by first | omega | exact Nat.le_refl _⟩, ⟨by (with_reducible repeat (first | refine blk_drewN ?_ _ | refine blk_drew ?_ | refine blk_alloc ?_ _)); exact BK332.out⟩, ⟨by (with_reducible repeat (first | refine blk_drewN ?_ _ | refine blk_drew ?_ | refine blk_alloc ?_ _)); exact BK333.out⟩, ⟨by (with_reducible repeat (first | refine blk_drewN ?_ _ | refine blk_drew ?_ | refine blk_alloc ?_ _)); exact BK334.out⟩, ⟨by repeat (first | (with_reducible first | exact HB.out | apply below_alloc | apply pw_below_drewN | apply below_drew1 | refine below_set ?_ GE332.out | refine below_set ?_ GE333.out | refine below_set ?_ GE334.out) | exact HB.out)⟩⟩
     ·rw [if_neg c28] at H
      have c28b0 : decide (1099511627776 < a2_0) = false := decide_eq_false c28
      clear c28
      by_cases c35 : a2_1 > 1099511627776
      ·rw [if_pos c35] at H
       have c35b0 : decide (1099511627776 < a2_1) = true := decide_eq_true c35
       clear c35
       have H' := Aside0.mk H
       clear H
       have hnb36 := NB332_333.out
       have hnc36 := NB333_332.out
       have hnb37 := NB332_334.out
       have hnc37 := NB334_332.out
       obtain ⟨hcz38_0, hcz38_1, hcz38_2, hcz38_3, hcz38_4, hcz38_5⟩ := cz6 BK332
       obtain ⟨hfz38_0, hfz38_1, hfz38_2, hfz38_3, hfz38_4, hfz38_5⟩ := fz6 BK332
       go_wp2_with (first | ((with_reducible refine gate_callee (f := 8) rfl ?_); refine goesB (some 22) rfl rfl Try.func8 #[.agg #[.slice A0_0 l0_0.length c0_0, .slice A0_1 l0_1.length c0_1, .int .i64 a0_2, .int .i64 a0_3, .bool a0_4, .int .i64 a0_5]] rfl ?_; (with_reducible refine (stickfullaw26_great.calls _ _ l0_0 _ _ l0_1 a0_2 a0_3 a0_4 a0_5 false _ ?side1 ?side2 ?side3 ?side4 A8.out).mono ?_); (case side1 => repeat (first | exact (Kd.C_below HR0_0.out HB.out) | (with_reducible refine Kd.C_alloc ?_ _) | (with_reducible refine Kd.C_drewN ?_ _) | (with_reducible refine Kd.C_drew ?_))); (case side2 => exact HC0_0.out); (case side3 => repeat (first | exact (Kd.C_below HR0_1.out HB.out) | (with_reducible refine Kd.C_alloc ?_ _) | (with_reducible refine Kd.C_drewN ?_ _) | (with_reducible refine Kd.C_drew ?_))); (case side4 => exact HC0_1.out); rintro e w39 ⟨rfl, hb⟩; refine ⟨_, rfl, ?_⟩; replace BK332 := bb BK332 hb; replace BK333 := bb BK333 hb; replace BK334 := bb BK334 hb; replace HB := bh HB hb; (try clear hb); (try clear hb2); (try clear hk); (try clear hi); have hnb40 := NB334_333.out; have hnc40 := NB333_334.out; obtain ⟨hcz41_0, hcz41_1⟩ := cz2 BK334; obtain ⟨hfz41_0, hfz41_1⟩ := fz2 BK334))
       go_meet
       case rel => exact ⟨_, (true), (by first | rfl | (simp; done) | (simp [*]; done)), H', ⟨by first | omega | exact Nat.le_refl _⟩, ⟨by (with_reducible repeat (first | refine blk_drewN ?_ _ | refine blk_drew ?_ | refine blk_alloc ?_ _)); exact BK332.out⟩, ⟨by (with_reducible repeat (first | refine blk_drewN ?_ _ | refine blk_drew ?_ | refine blk_alloc ?_ _)); exact BK333.out⟩, ⟨by (with_reducible repeat (first | refine blk_drewN ?_ _ | refine blk_drew ?_ | refine blk_alloc ?_ _)); exact BK334.out⟩, ⟨by repeat (first | (with_reducible first | exact HB.out | apply below_alloc | apply pw_below_drewN | apply below_drew1 | refine below_set ?_ GE332.out | refine below_set ?_ GE333.out | refine below_set ?_ GE334.out) | exact HB.out)⟩⟩
      ·rw [if_neg c35] at H
       have c35b0 : decide (1099511627776 < a2_1) = false := decide_eq_false c35
       clear c35
       have H' := Aside0.mk H
       clear H
       have hnb42 := NB332_333.out
       have hnc42 := NB333_332.out
       have hnb43 := NB332_334.out
       have hnc43 := NB334_332.out
       obtain ⟨hcz44_0, hcz44_1, hcz44_2, hcz44_3, hcz44_4, hcz44_5⟩ := cz6 BK332
       obtain ⟨hfz44_0, hfz44_1, hfz44_2, hfz44_3, hfz44_4, hfz44_5⟩ := fz6 BK332
       go_wp2_with (first | ((with_reducible refine gate_callee (f := 8) rfl ?_); refine goesB (some 22) rfl rfl Try.func8 #[.agg #[.slice A0_0 l0_0.length c0_0, .slice A0_1 l0_1.length c0_1, .int .i64 a0_2, .int .i64 a0_3, .bool a0_4, .int .i64 a0_5]] rfl ?_; (with_reducible refine (stickfullaw26_great.calls _ _ l0_0 _ _ l0_1 a0_2 a0_3 a0_4 a0_5 false _ ?side1 ?side2 ?side3 ?side4 A8.out).mono ?_); (case side1 => repeat (first | exact (Kd.C_below HR0_0.out HB.out) | (with_reducible refine Kd.C_alloc ?_ _) | (with_reducible refine Kd.C_drewN ?_ _) | (with_reducible refine Kd.C_drew ?_))); (case side2 => exact HC0_0.out); (case side3 => repeat (first | exact (Kd.C_below HR0_1.out HB.out) | (with_reducible refine Kd.C_alloc ?_ _) | (with_reducible refine Kd.C_drewN ?_ _) | (with_reducible refine Kd.C_drew ?_))); (case side4 => exact HC0_1.out); rintro e w45 ⟨rfl, hb⟩; refine ⟨_, rfl, ?_⟩; replace BK332 := bb BK332 hb; replace BK333 := bb BK333 hb; replace BK334 := bb BK334 hb; replace HB := bh HB hb; (try clear hb); (try clear hb2); (try clear hk); (try clear hi); have hnb46 := NB334_333.out; have hnc46 := NB333_334.out; obtain ⟨hcz47_0, hcz47_1⟩ := cz2 BK334; obtain ⟨hfz47_0, hfz47_1⟩ := fz2 BK334; obtain ⟨hcz48_0, hcz48_1⟩ := cz2 BK333; obtain ⟨hfz48_0, hfz48_1⟩ := fz2 BK333))
       go_meet
       case rel => exact ⟨_, (decide (a1_0 > 1125899906842624)), (by first | rfl | (simp; done) | (simp [*]; done)), H', ⟨by first | omega | exact Nat.le_refl _⟩, ⟨by (with_reducible repeat (first | refine blk_drewN ?_ _ | refine blk_drew ?_ | refine blk_alloc ?_ _)); exact BK332.out⟩, ⟨by (with_reducible repeat (first | refine blk_drewN ?_ _ | refine blk_drew ?_ | refine blk_alloc ?_ _)); exact BK333.out⟩, ⟨by (with_reducible repeat (first | refine blk_drewN ?_ _ | refine blk_drew ?_ | refine blk_alloc ?_ _)); exact BK334.out⟩, ⟨by repeat (first | (with_reducible first | exact HB.out | apply below_alloc | apply pw_below_drewN | apply below_drew1 | refine below_set ?_ GE332.out | refine below_set ?_ GE333.out | refine below_set ?_ GE334.out) | exact HB.out)⟩⟩
 case rest =>
  clear HC4
  try clear c1
  try clear c2
  try clear p2
  try clear c3
  try clear c4
  try clear c5
  try clear c8
  try clear c9
  try clear c10
  try clear c11
  try clear c14
  try clear c14b0
  try clear c15
  try clear c16
  try clear c19
  try clear c21
  try clear c21b0
  try clear c22
  try clear c23
  try clear c26
  try clear c28
  try clear c28b0
  try clear c29
  try clear c30
  try clear c33
  try clear c35
  try clear c35b0
  try clear c36
  try clear c37
  try clear c40
  try clear c42
  try clear c43
  try clear c46
  try clear hcz12_0
  try clear hcz12_1
  try clear hcz12_2
  try clear hcz12_3
  try clear hcz12_4
  try clear hcz12_5
  try clear hcz17_0
  try clear hcz17_1
  try clear hcz17_2
  try clear hcz17_3
  try clear hcz17_4
  try clear hcz17_5
  try clear hcz20_0
  try clear hcz20_1
  try clear hcz24_0
  try clear hcz24_1
  try clear hcz24_2
  try clear hcz24_3
  try clear hcz24_4
  try clear hcz24_5
  try clear hcz27_0
  try clear hcz27_1
  try clear hcz31_0
  try clear hcz31_1
  try clear hcz31_2
  try clear hcz31_3
  try clear hcz31_4
  try clear hcz31_5
  try clear hcz34_0
  try clear hcz34_1
  try clear hcz38_0
  try clear hcz38_1
  try clear hcz38_2
  try clear hcz38_3
  try clear hcz38_4
  try clear hcz38_5
  try clear hcz41_0
  try clear hcz41_1
  try clear hcz44_0
  try clear hcz44_1
  try clear hcz44_2
  try clear hcz44_3
  try clear hcz44_4
  try clear hcz44_5
  try clear hcz47_0
  try clear hcz47_1
  try clear hcz48_0
  try clear hcz48_1
  try clear hfz12_0
  try clear hfz12_1
  try clear hfz12_2
  try clear hfz12_3
  try clear hfz12_4
  try clear hfz12_5
  try clear hfz17_0
  try clear hfz17_1
  try clear hfz17_2
  try clear hfz17_3
  try clear hfz17_4
  try clear hfz17_5
  try clear hfz20_0
  try clear hfz20_1
  try clear hfz24_0
  try clear hfz24_1
  try clear hfz24_2
  try clear hfz24_3
  try clear hfz24_4
  try clear hfz24_5
  try clear hfz27_0
  try clear hfz27_1
  try clear hfz31_0
  try clear hfz31_1
  try clear hfz31_2
  try clear hfz31_3
  try clear hfz31_4
  try clear hfz31_5
  try clear hfz34_0
  try clear hfz34_1
  try clear hfz38_0
  try clear hfz38_1
  try clear hfz38_2
  try clear hfz38_3
  try clear hfz38_4
  try clear hfz38_5
  try clear hfz41_0
  try clear hfz41_1
  try clear hfz44_0
  try clear hfz44_1
  try clear hfz44_2
  try clear hfz44_3
  try clear hfz44_4
  try clear hfz44_5
  try clear hfz47_0
  try clear hfz47_1
  try clear hfz48_0
  try clear hfz48_1
  obtain ⟨kq, x47_3, rfl, HA, HJ3, BK332, BK333, BK334, HB⟩ := hcut
  cases kq with
  | zero => exact absurd HA.out (by simp [stickfullaw26_EllipsisGrows.j0])
  | succ kj3 =>
   have H := HA.out
   clear HA
   simp only [stickfullaw26_EllipsisGrows.j0] at H
   by_cases c49 : x47_3 = true
   ·subst c49
    have H1 : ((stickfullaw26_head.f kj3).bind fun t336 => (some t336)) = some r := by rw [if_pos rfl] at H; exact H
    clear H
    have H := H1
    clear H1
    replace H := Option.bind_eq_some_iff.mp H
    obtain ⟨t336, A500, H⟩ := H
    replace H : (some t336) = some r := H
    have A50 := Aside0.mk A500
    clear A500
    obtain rfl := Option.some.inj H
    go_wp2_with (first | ((with_reducible refine gate_callee (f := 9) rfl ?_); refine goesB (some 48) rfl rfl Try.func9 #[] rfl ?_; (with_reducible refine (stickfullaw26_head.calls kj3  t336 _ A50.out).mono ?_); rintro e w51 ⟨rfl, hb⟩; refine ⟨_, rfl, ?_⟩; replace BK332 := bb BK332 hb; replace BK333 := bb BK333 hb; replace BK334 := bb BK334 hb; replace HB := bh HB hb; (try clear hb); (try clear hb2); (try clear hk); (try clear hi)))
    go_ret
    exact ⟨by first | rfl | (simp [errW_none, errW_some] <;> rfl) | (simp [*, errW_none, errW_some] <;> rfl), by repeat (first | (with_reducible first | exact HB.out | apply below_alloc | apply pw_below_drewN | apply below_drew1 | refine below_set ?_ GE332.out | refine below_set ?_ GE333.out | refine below_set ?_ GE334.out) | exact HB.out)⟩
   ·replace c49 := Bool.eq_false_iff.mpr c49
    subst c49
    have H1 : (stickfullaw26_EllipsisGrows.l0 kj3 0 l0_0 l0_1 a0_2 a0_3 a0_4 a0_5 a1_0 a1_1 a2_0 a2_1) = some r := by rw [if_neg (show ¬ (false = true) by decide)] at H; exact H
    clear H
    have H := H1
    clear H1
    have H' := Aside0.mk H
    clear H
    go_wp2
    go_loopg [7] kj3 (fun kq v7 w' => ∃ (x7_2 : Int), v7 = .int .i64 x7_2 ∧ Aside0 (stickfullaw26_EllipsisGrows.l0 kq x7_2 l0_0 l0_1 a0_2 a0_3 a0_4 a0_5 a1_0 a1_1 a2_0 a2_1 = some r) ∧ Aside0 (kq ≤ kj3) ∧ Aside0 (w'.heap[gb332]? = some (.cells #[(.slice A0_0 l0_0.length c0_0), (.slice A0_1 l0_1.length c0_1), .int .i64 a0_2, .int .i64 a0_3, .bool a0_4, .int .i64 a0_5] 27 (0, 0))) ∧ Aside0 (w'.heap[gb333]? = some (.cells #[.int .i64 a1_0, .int .i64 a1_1] 29 (0, 0))) ∧ Aside0 (w'.heap[gb334]? = some (.cells #[.int .i64 a2_0, .int .i64 a2_1] 51 (0, 0))) ∧ Aside0 (Below w.heap.size w w'))
    case atStart => exact ⟨(0), (by first | rfl | (simp; done) | (simp [*]; done)), H', ⟨Nat.le_refl _⟩, ⟨by (with_reducible repeat (first | refine blk_drewN ?_ _ | refine blk_drew ?_ | refine blk_alloc ?_ _)); exact BK332.out⟩, ⟨by (with_reducible repeat (first | refine blk_drewN ?_ _ | refine blk_drew ?_ | refine blk_alloc ?_ _)); exact BK333.out⟩, ⟨by (with_reducible repeat (first | refine blk_drewN ?_ _ | refine blk_drew ?_ | refine blk_alloc ?_ _)); exact BK334.out⟩, ⟨by repeat (first | (with_reducible first | exact HB.out | apply below_alloc | apply pw_below_drewN | apply below_drew1 | refine below_set ?_ GE332.out | refine below_set ?_ GE333.out | refine below_set ?_ GE334.out) | exact HB.out)⟩⟩
    case round =>
     clear H'
     try clear c1
     try clear c2
     try clear p2
     try clear c3
     try clear c4
     try clear c5
     try clear c8
     try clear c9
     try clear c10
     try clear c11
     try clear c14
     try clear c14b0
     try clear c15
     try clear c16
     try clear c19
     try clear c21
     try clear c21b0
     try clear c22
     try clear c23
     try clear c26
     try clear c28
     try clear c28b0
     try clear c29
     try clear c30
     try clear c33
     try clear c35
     try clear c35b0
     try clear c36
     try clear c37
     try clear c40
     try clear c42
     try clear c43
     try clear c46
     try clear c49
     try clear hcz12_0
     try clear hcz12_1
     try clear hcz12_2
     try clear hcz12_3
     try clear hcz12_4
     try clear hcz12_5
     try clear hcz17_0
     try clear hcz17_1
     try clear hcz17_2
     try clear hcz17_3
     try clear hcz17_4
     try clear hcz17_5
     try clear hcz20_0
     try clear hcz20_1
     try clear hcz24_0
     try clear hcz24_1
     try clear hcz24_2
     try clear hcz24_3
     try clear hcz24_4
     try clear hcz24_5
     try clear hcz27_0
     try clear hcz27_1
     try clear hcz31_0
     try clear hcz31_1
     try clear hcz31_2
     try clear hcz31_3
     try clear hcz31_4
     try clear hcz31_5
     try clear hcz34_0
     try clear hcz34_1
     try clear hcz38_0
     try clear hcz38_1
     try clear hcz38_2
     try clear hcz38_3
     try clear hcz38_4
     try clear hcz38_5
     try clear hcz41_0
     try clear hcz41_1
     try clear hcz44_0
     try clear hcz44_1
     try clear hcz44_2
     try clear hcz44_3
     try clear hcz44_4
     try clear hcz44_5
     try clear hcz47_0
     try clear hcz47_1
     try clear hcz48_0
     try clear hcz48_1
     try clear hfz12_0
     try clear hfz12_1
     try clear hfz12_2
     try clear hfz12_3
     try clear hfz12_4
     try clear hfz12_5
     try clear hfz17_0
     try clear hfz17_1
     try clear hfz17_2
     try clear hfz17_3
     try clear hfz17_4
     try clear hfz17_5
     try clear hfz20_0
     try clear hfz20_1
     try clear hfz24_0
     try clear hfz24_1
     try clear hfz24_2
     try clear hfz24_3
     try clear hfz24_4
     try clear hfz24_5
     try clear hfz27_0
     try clear hfz27_1
     try clear hfz31_0
     try clear hfz31_1
     try clear hfz31_2
     try clear hfz31_3
     try clear hfz31_4
     try clear hfz31_5
     try clear hfz34_0
     try clear hfz34_1
     try clear hfz38_0
     try clear hfz38_1
     try clear hfz38_2
     try clear hfz38_3
     try clear hfz38_4
     try clear hfz38_5
     try clear hfz41_0
     try clear hfz41_1
     try clear hfz44_0
     try clear hfz44_1
     try clear hfz44_2
     try clear hfz44_3
     try clear hfz44_4
     try clear hfz44_5
     try clear hfz47_0
     try clear hfz47_1
     try clear hfz48_0
     try clear hfz48_1
     try clear p2
     obtain ⟨x7_2, rfl, HA, HK2, BK332, BK333, BK334, HB⟩ := hrel
     cases gk with
     | zero => exact absurd HA.out (by simp [stickfullaw26_EllipsisGrows.l0])
     | succ k2 =>
      have H := HA.out
      clear HA
      simp only [stickfullaw26_EllipsisGrows.l0] at H
      by_cases c52 : x7_2 < (l0_0.length : Int)
      ·rw [if_pos c52] at H
       have c52b0 : decide (x7_2 < (l0_0.length : Int)) = true := decide_eq_true c52
       clear c52
       by_cases c53 : 0 ≤ x7_2
       ·rw [if_pos c53] at H
        have c53b0 : decide (0 ≤ x7_2) = true := decide_eq_true c53
        clear c53
        by_cases c54 : ((rd_T53 l0_0 x7_2).f3) < 0
        ·rw [if_pos c54] at H
         have c54b0 : decide (((rd_T53 l0_0 x7_2).f3) < 0) = true := decide_eq_true c54
         clear c54
         replace H := Option.bind_eq_some_iff.mp H
         obtain ⟨t338, A550, H⟩ := H
         replace H : (some t338) = some r := H
         have A55 := Aside0.mk A550
         clear A550
         obtain rfl := Option.some.inj H
         have hnb56 := NB332_333.out
         have hnc56 := NB333_332.out
         have hnb57 := NB332_334.out
         have hnc57 := NB334_332.out
         obtain ⟨hcz58_0, hcz58_1, hcz58_2, hcz58_3, hcz58_4, hcz58_5⟩ := cz6 BK332
         obtain ⟨hfz58_0, hfz58_1, hfz58_2, hfz58_3, hfz58_4, hfz58_5⟩ := fz6 BK332
         have p337 : 0 ≤ (x7_2 : Int) := of_decide_eq_true (by first | (with_reducible assumption) | assumption)
         have q337 : x7_2 < (l0_0.length : Int) := of_decide_eq_true (by first | (with_reducible assumption) | assumption)
         obtain ⟨ad337, e337, hx337_0, hx337_1, hx337_2, hx337_3, hx337_4, hx337_5⟩ := at_T53 HR0_0.out x7_2 p337 q337
         cases e337
         replace hx337_0 := (HB.out.cell (World.block_lt_of_cell? w _ hx337_0)).trans hx337_0
         replace hx337_1 := (HB.out.cell (World.block_lt_of_cell? w _ hx337_1)).trans hx337_1
         replace hx337_2 := (HB.out.cell (World.block_lt_of_cell? w _ hx337_2)).trans hx337_2
         replace hx337_3 := (HB.out.cell (World.block_lt_of_cell? w _ hx337_3)).trans hx337_3
         replace hx337_4 := (HB.out.cell (World.block_lt_of_cell? w _ hx337_4)).trans hx337_4
         replace hx337_5 := (HB.out.cell (World.block_lt_of_cell? w _ hx337_5)).trans hx337_5
         replace p337 := eq_true p337
         replace q337 := eq_true q337
         go_wp2_with (first | ((with_reducible refine gate_callee (f := 9) rfl ?_); refine goesB (some 63) rfl rfl Try.func9 #[] rfl ?_; (with_reducible refine (stickfullaw26_head.calls k2  t338 _ A55.out).mono ?_); rintro e w59 ⟨rfl, hb⟩; refine ⟨_, rfl, ?_⟩; replace BK332 := bb BK332 hb; replace BK333 := bb BK333 hb; replace BK334 := bb BK334 hb; replace HB := bh HB hb; (try clear hb); (try clear hb2); (try clear hk); (try clear hi)))
         go_ret
         exact ⟨by first | rfl | (simp [errW_none, errW_some] <;> rfl) | (simp [*, errW_none, errW_some] <;> rfl), by repeat (first | (with_reducible first | exact HB.out | apply below_alloc | apply pw_below_drewN | apply below_drew1 | refine below_set ?_ GE332.out | refine below_set ?_ GE333.out | refine below_set ?_ GE334.out) | exact HB.out)⟩
        ·rw [if_neg c54] at H
         have c54b0 : decide (((rd_T53 l0_0 x7_2).f3) < 0) = false := decide_eq_false c54
         clear c54
         have H' := Aside0.mk H
         clear H
         have hnb60 := NB332_333.out
         have hnc60 := NB333_332.out
         have hnb61 := NB332_334.out
         have hnc61 := NB334_332.out
         obtain ⟨hcz62_0, hcz62_1, hcz62_2, hcz62_3, hcz62_4, hcz62_5⟩ := cz6 BK332
         obtain ⟨hfz62_0, hfz62_1, hfz62_2, hfz62_3, hfz62_4, hfz62_5⟩ := fz6 BK332
         have p337 : 0 ≤ (x7_2 : Int) := of_decide_eq_true (by first | (with_reducible assumption) | assumption)
         have q337 : x7_2 < (l0_0.length : Int) := of_decide_eq_true (by first | (with_reducible assumption) | assumption)
         obtain ⟨ad337, e337, hx337_0, hx337_1, hx337_2, hx337_3, hx337_4, hx337_5⟩ := at_T53 HR0_0.out x7_2 p337 q337
         cases e337
         replace hx337_0 := (HB.out.cell (World.block_lt_of_cell? w _ hx337_0)).trans hx337_0
         replace hx337_1 := (HB.out.cell (World.block_lt_of_cell? w _ hx337_1)).trans hx337_1
         replace hx337_2 := (HB.out.cell (World.block_lt_of_cell? w _ hx337_2)).trans hx337_2
         replace hx337_3 := (HB.out.cell (World.block_lt_of_cell? w _ hx337_3)).trans hx337_3
         replace hx337_4 := (HB.out.cell (World.block_lt_of_cell? w _ hx337_4)).trans hx337_4
         replace hx337_5 := (HB.out.cell (World.block_lt_of_cell? w _ hx337_5)).trans hx337_5
         replace p337 := eq_true p337
         replace q337 := eq_true q337
         go_wp2
         go_roundg k2
         case measure => have := HJ3.out; have := HK2.out; omega
         case rel => exact ⟨(wrap64 (x7_2 + 1)), (by first | rfl | (simp; done) | (simp [*]; done)), H', ⟨by have := HJ3.out; have := HK2.out; omega⟩, ⟨by (with_reducible repeat (first | refine blk_drewN ?_ _ | refine blk_drew ?_ | refine blk_alloc ?_ _)); exact BK332.out⟩, ⟨by (with_reducible repeat (first | refine blk_drewN ?_ _ | refine blk_drew ?_ | refine blk_alloc ?_ _)); exact BK333.out⟩, ⟨by (with_reducible repeat (first | refine blk_drewN ?_ _ | refine blk_drew ?_ | refine blk_alloc ?_ _)); exact BK334.out⟩, ⟨by repeat (first | (with_reducible first | exact HB.out | apply below_alloc | apply pw_below_drewN | apply below_drew1 | refine below_set ?_ GE332.out | refine below_set ?_ GE333.out | refine below_set ?_ GE334.out) | exact HB.out)⟩⟩
       ·rw [if_neg c53] at H
        exact absurd H (by simp)
      ·rw [if_neg c52] at H
       have c52b0 : decide (x7_2 < (l0_0.length : Int)) = false := decide_eq_false c52
       clear c52
       replace H := Option.bind_eq_some_iff.mp H
       obtain ⟨⟨t339, t340, t341, t342⟩, A630, H⟩ := H
       replace H : ((ellipsis_Cut.f l0_0 l0_1 a0_2 a0_3 a0_4 (wrap64 (a1_0 + a2_0)) a1_1 a0_5).bind fun bt344 => ((ellipsis_Cut.f l0_0 l0_1 a0_2 a0_3 a0_4 a1_0 a1_1 (mn (wrap64 (a0_5 + a2_1)) 1073741824)).bind fun bt348 => (if t342 = 0 then (if bt344.2.2.2 = 0 then (stickfullaw26_EllipsisGrows.j2 k2 t339 t342 bt344.1 bt344.2.2.2 bt348.1 (bt348.2.2.2 != 0) a1_0 a1_1) else (stickfullaw26_EllipsisGrows.j2 k2 t339 t342 bt344.1 bt344.2.2.2 bt348.1 true a1_0 a1_1)) else (stickfullaw26_EllipsisGrows.j2 k2 t339 t342 bt344.1 bt344.2.2.2 bt348.1 true a1_0 a1_1)))) = some r := H
       have A63 := Aside0.mk A630
       clear A630
       replace H := Option.bind_eq_some_iff.mp H
       obtain ⟨⟨t344, t345, t346, t347⟩, A640, H⟩ := H
       replace H : ((ellipsis_Cut.f l0_0 l0_1 a0_2 a0_3 a0_4 a1_0 a1_1 (mn (wrap64 (a0_5 + a2_1)) 1073741824)).bind fun bt348 => (if t342 = 0 then (if t347 = 0 then (stickfullaw26_EllipsisGrows.j2 k2 t339 t342 t344 t347 bt348.1 (bt348.2.2.2 != 0) a1_0 a1_1) else (stickfullaw26_EllipsisGrows.j2 k2 t339 t342 t344 t347 bt348.1 true a1_0 a1_1)) else (stickfullaw26_EllipsisGrows.j2 k2 t339 t342 t344 t347 bt348.1 true a1_0 a1_1))) = some r := H
       have A64 := Aside0.mk A640
       clear A640
       obtain ⟨ji65, hji65⟩ : ∃ j_ : Int, (mn (wrap64 (a0_5 + a2_1)) 1073741824) = j_ := ⟨_, rfl⟩
       replace H : ((ellipsis_Cut.f l0_0 l0_1 a0_2 a0_3 a0_4 a1_0 a1_1 (ji65)).bind fun bt348 => (if t342 = 0 then (if t347 = 0 then (stickfullaw26_EllipsisGrows.j2 k2 t339 t342 t344 t347 bt348.1 (bt348.2.2.2 != 0) a1_0 a1_1) else (stickfullaw26_EllipsisGrows.j2 k2 t339 t342 t344 t347 bt348.1 true a1_0 a1_1)) else (stickfullaw26_EllipsisGrows.j2 k2 t339 t342 t344 t347 bt348.1 true a1_0 a1_1))) = some r := by first | (rw [hji65] at H; exact H) | (simp only [hji65] at H ⊢; exact H)
       (try rw [hji65] at A63)
       (try rw [hji65] at A64)
       have hji65_ : (if 1073741824 < (wrap64 (a0_5 + a2_1)) then 1073741824 else (wrap64 (a0_5 + a2_1))) = ji65 := hji65
       replace H := Option.bind_eq_some_iff.mp H
       obtain ⟨⟨t348, t349, t350, t351⟩, A660, H⟩ := H
       replace H : (if t342 = 0 then (if t347 = 0 then (stickfullaw26_EllipsisGrows.j2 k2 t339 t342 t344 t347 t348 (t351 != 0) a1_0 a1_1) else (stickfullaw26_EllipsisGrows.j2 k2 t339 t342 t344 t347 t348 true a1_0 a1_1)) else (stickfullaw26_EllipsisGrows.j2 k2 t339 t342 t344 t347 t348 true a1_0 a1_1)) = some r := H
       have A66 := Aside0.mk A660
       clear A660
       have HC67 := Aside0.mk H
       clear H
       have hnb68 := NB332_333.out
       have hnc68 := NB333_332.out
       have hnb69 := NB332_334.out
       have hnc69 := NB334_332.out
       obtain ⟨hcz70_0, hcz70_1, hcz70_2, hcz70_3, hcz70_4, hcz70_5⟩ := cz6 BK332
       obtain ⟨hfz70_0, hfz70_1, hfz70_2, hfz70_3, hfz70_4, hfz70_5⟩ := fz6 BK332
       have hnb71 := NB333_334.out
       have hnc71 := NB334_333.out
       obtain ⟨hcz72_0, hcz72_1⟩ := cz2 BK333
       obtain ⟨hfz72_0, hfz72_1⟩ := fz2 BK333
       go_upto_region 13 with (first | ((with_reducible refine gate_callee (f := 10) rfl ?_); refine goesB (some 74) rfl rfl Try.func10 #[.slice A0_0 l0_0.length c0_0, .slice A0_1 l0_1.length c0_1, .agg #[.int .i64 a0_2, .int .i64 a0_3, .bool a0_4], .agg #[.int .i64 a1_0, .int .i64 a1_1], .int .i64 a0_5] rfl ?_; (with_reducible refine (ellipsis_Cut.calls _ _ l0_0 _ _ l0_1 a0_2 a0_3 a0_4 a1_0 a1_1 a0_5 t339 t340 t341 t342 _ ?side1 ?side2 ?side3 ?side4 A63.out).mono ?_); (case side1 => repeat (first | exact (Kd.C_below HR0_0.out HB.out) | (with_reducible refine Kd.C_alloc ?_ _) | (with_reducible refine Kd.C_drewN ?_ _) | (with_reducible refine Kd.C_drew ?_))); (case side2 => exact HC0_0.out); (case side3 => repeat (first | exact (Kd.C_below HR0_1.out HB.out) | (with_reducible refine Kd.C_alloc ?_ _) | (with_reducible refine Kd.C_drewN ?_ _) | (with_reducible refine Kd.C_drew ?_))); (case side4 => exact HC0_1.out); rintro e w73 ⟨rfl, hb⟩; refine ⟨_, rfl, ?_⟩; replace BK332 := bb BK332 hb; replace BK333 := bb BK333 hb; replace BK334 := bb BK334 hb; replace HB := bh HB hb; (try clear hb); (try clear hb2); (try clear hk); (try clear hi); obtain ⟨hcz74_0, hcz74_1⟩ := cz2 BK333; obtain ⟨hfz74_0, hfz74_1⟩ := fz2 BK333) | ((with_reducible refine gate_dst (N := 12) rfl ?_); refine box_event ?hg (N := 12) ?hd (cs := #[.int .i64 0, .int .i64 0]) (t := 29) ?hr ?_; (case hd => rfl); (case hg => rfl); (case hr => first | (go_simp; done) | (go_simp; rfl)); intro gb343 hg w75 hbox hb; have BK343 := Aside0.mk (hbox); have GW343 := bge HB hg; have GE343 := bge HB hg; replace HB := bh HB hb; have NB332_343 := nbl BK332 hg; have NB343_332 := nbg BK332 hg; replace BK332 := bb BK332 hb; have NB333_343 := nbl BK333 hg; have NB343_333 := nbg BK333 hg; replace BK333 := bb BK333 hb; have NB334_343 := nbl BK334 hg; have NB343_334 := nbg BK334 hg; replace BK334 := bb BK334 hb; clear hb hbox hg; have hnb76 := NB343_332.out; have hnc76 := NB332_343.out; have hnb77 := NB343_333.out; have hnc77 := NB333_343.out; have hnb78 := NB343_334.out; have hnc78 := NB334_343.out; obtain ⟨hcz79_0, hcz79_1⟩ := cz2 BK343; obtain ⟨hfz79_0, hfz79_1⟩ := fz2 BK343; obtain ⟨hcz80_0, hcz80_1⟩ := cz2 BK333; obtain ⟨hfz80_0, hfz80_1⟩ := fz2 BK333; obtain ⟨hcz81_0, hcz81_1⟩ := cz2 BK334; obtain ⟨hfz81_0, hfz81_1⟩ := fz2 BK334; obtain ⟨hcz82_0, hcz82_1, hcz82_2, hcz82_3, hcz82_4, hcz82_5⟩ := cz6 BK332; obtain ⟨hfz82_0, hfz82_1, hfz82_2, hfz82_3, hfz82_4, hfz82_5⟩ := fz6 BK332) | ((with_reducible refine gate_callee (f := 10) rfl ?_); refine goesB (some 96) rfl rfl Try.func10 #[.slice A0_0 l0_0.length c0_0, .slice A0_1 l0_1.length c0_1, .agg #[.int .i64 a0_2, .int .i64 a0_3, .bool a0_4], .agg #[.int .i64 (wrap64 (a1_0 + a2_0)), .int .i64 a1_1], .int .i64 a0_5] rfl ?_; (with_reducible refine (ellipsis_Cut.calls _ _ l0_0 _ _ l0_1 a0_2 a0_3 a0_4 (wrap64 (a1_0 + a2_0)) a1_1 a0_5 t344 t345 t346 t347 _ ?side1 ?side2 ?side3 ?side4 A64.out).mono ?_); (case side1 => exact Kd.C_below HR0_0.out (bw HB)); (case side2 => exact HC0_0.out); (case side3 => exact Kd.C_below HR0_1.out (bw HB)); (case side4 => exact HC0_1.out); rintro e w83 ⟨rfl, hb⟩; refine ⟨_, rfl, ?_⟩; replace BK332 := bb BK332 hb; replace BK333 := bb BK333 hb; replace BK334 := bb BK334 hb; replace BK343 := Aside0.mk (blk_below (o := .cells #[.int .i64 (wrap64 (a1_0 + a2_0)), .int .i64 a1_1] 29 (0, 0)) (bp BK343) hb); replace HB := bh HB hb; (try clear hb); (try clear hb2); (try clear hk); (try clear hi); obtain ⟨hcz84_0, hcz84_1, hcz84_2, hcz84_3, hcz84_4, hcz84_5⟩ := cz6 BK332; obtain ⟨hfz84_0, hfz84_1, hfz84_2, hfz84_3, hfz84_4, hfz84_5⟩ := fz6 BK332; obtain ⟨hcz85_0, hcz85_1⟩ := cz2 BK333; obtain ⟨hfz85_0, hfz85_1⟩ := fz2 BK333; obtain ⟨hcz86_0, hcz86_1⟩ := cz2 BK334; obtain ⟨hfz86_0, hfz86_1⟩ := fz2 BK334) | ((with_reducible refine gate_callee (f := 10) rfl ?_); refine goesL_ (some 115) rfl rfl Try.func10 (by kernel_rfl) rfl #[.slice A0_0 l0_0.length c0_0, .slice A0_1 l0_1.length c0_1, .agg #[.int .i64 a0_2, .int .i64 a0_3, .bool a0_4], .agg #[.int .i64 a1_0, .int .i64 a1_1], .int .i64 ji65] rfl (by (try simp only [List.map_toArray, List.map_cons, List.map_nil]); first | done | (simp only [hji65]; rfl) | rfl | (simp only [List.length_drop, List.length_take]; rfl)) ?_; (with_reducible refine (ellipsis_Cut.calls _ _ l0_0 _ _ l0_1 a0_2 a0_3 a0_4 a1_0 a1_1 ji65 t348 t349 t350 t351 _ ?side1 ?side2 ?side3 ?side4 A66.out).mono ?_); (case side1 => repeat (first | exact (Kd.C_below HR0_0.out HB.out) | (with_reducible refine Kd.C_alloc ?_ _) | (with_reducible refine Kd.C_drewN ?_ _) | (with_reducible refine Kd.C_drew ?_))); (case side2 => exact HC0_0.out); (case side3 => repeat (first | exact (Kd.C_below HR0_1.out HB.out) | (with_reducible refine Kd.C_alloc ?_ _) | (with_reducible refine Kd.C_drewN ?_ _) | (with_reducible refine Kd.C_drew ?_))); (case side4 => exact HC0_1.out); rintro e w87 ⟨rfl, hb⟩; refine ⟨_, rfl, ?_⟩; replace BK332 := bb BK332 hb; replace BK333 := bb BK333 hb; replace BK334 := bb BK334 hb; replace BK343 := bb BK343 hb; replace HB := bh HB hb; (try clear hb); (try clear hb2); (try clear hk); (try clear hi)))
       (try simp only [Act.put, List.setIfInBounds_toArray, List.set_cons_zero, List.set_cons_succ])
       go_cut [129] (fun v129 wc => ∃ (kq : Nat) (x129_66 : Bool), v129 = .bool x129_66 ∧ Aside0 (stickfullaw26_EllipsisGrows.j2 kq t339 t342 t344 t347 t348 x129_66 a1_0 a1_1 = some r) ∧ Aside0 (kq ≤ k2) ∧ Aside0 (wc.heap[gb332]? = some (.cells #[(.slice A0_0 l0_0.length c0_0), (.slice A0_1 l0_1.length c0_1), .int .i64 a0_2, .int .i64 a0_3, .bool a0_4, .int .i64 a0_5] 27 (0, 0))) ∧ Aside0 (wc.heap[gb333]? = some (.cells #[.int .i64 a1_0, .int .i64 a1_1] 29 (0, 0))) ∧ Aside0 (wc.heap[gb334]? = some (.cells #[.int .i64 a2_0, .int .i64 a2_1] 51 (0, 0))) ∧ Aside0 (wc.heap[gb343]? = some (.cells #[.int .i64 (wrap64 (a1_0 + a2_0)), .int .i64 a1_1] 29 (0, 0))) ∧ Aside0 (Below w.heap.size w wc))
       case first =>
        have H := HC67.out
        clear HC67
        by_cases c88 : t342 = 0
        ·rw [if_pos c88] at H
         have c88b0 : (t342 == 0) = true := beq_iff_eq.mpr c88
         have c88b1 : (t342 != 0) = false := bne_eq_false_iff_eq.mpr c88
         clear c88
         (first | rw [c88b0] | (simp only [i64_w, i32_w]; rw [c88b0]) | skip)
         by_cases c89 : t347 = 0
         ·rw [if_pos c89] at H
          have c89b0 : (t347 == 0) = true := beq_iff_eq.mpr c89
          have c89b1 : (t347 != 0) = false := bne_eq_false_iff_eq.mpr c89
          clear c89
          have H' := Aside0.mk H
          clear H
          go_wp2
          go_meet
          case rel => exact ⟨_, ((t351 != 0)), (by first | rfl | (simp; done) | (simp [*]; done)), H', ⟨by have := HJ3.out; have := HK2.out; first | omega | exact Nat.le_refl _⟩, ⟨by (with_reducible repeat (first | refine blk_drewN ?_ _ | refine blk_drew ?_ | refine blk_alloc ?_ _)); exact BK332.out⟩, ⟨by (with_reducible repeat (first | refine blk_drewN ?_ _ | refine blk_drew ?_ | refine blk_alloc ?_ _)); exact BK333.out⟩, ⟨by (with_reducible repeat (first | refine blk_drewN ?_ _ | refine blk_drew ?_ | refine blk_alloc ?_ _)); exact BK334.out⟩, ⟨by (with_reducible repeat (first | refine blk_drewN ?_ _ | refine blk_drew ?_ | refine blk_alloc ?_ _)); exact BK343.out⟩, ⟨by repeat (first | (with_reducible first | exact HB.out | apply below_alloc | apply pw_below_drewN | apply below_drew1 | refine below_set ?_ GE332.out | refine below_set ?_ GE333.out | refine below_set ?_ GE334.out | refine below_set ?_ GE343.out) | exact HB.out)⟩⟩
         ·rw [if_neg c89] at H
          have c89b0 : (t347 == 0) = false := beq_eq_false_iff_ne.mpr c89
          have c89b1 : (t347 != 0) = true := bne_iff_ne.mpr c89
          have H' := Aside0.mk H
          clear H
          go_wp2
          go_meet
          case rel => exact ⟨_, (true), (by first | rfl | (simp; done) | (simp [*]; done)), H', ⟨by have := HJ3.out; have := HK2.out; first | omega | exact Nat.le_refl _⟩, ⟨by (with_reducible repeat (first | refine blk_drewN ?_ _ | refine blk_drew ?_ | refine blk_alloc ?_ _)); exact BK332.out⟩, ⟨by (with_reducible repeat (first | refine blk_drewN ?_ _ | refine blk_drew ?_ | refine blk_alloc ?_ _)); exact BK333.out⟩, ⟨by (with_reducible repeat (first | refine blk_drewN ?_ _ | refine blk_drew ?_ | refine blk_alloc ?_ _)); exact BK334.out⟩, ⟨by (with_reducible repeat (first | refine blk_drewN ?_ _ | refine blk_drew ?_ | refine blk_alloc ?_ _)); exact BK343.out⟩, ⟨by repeat (first | (with_reducible first | exact HB.out | apply below_alloc | apply pw_below_drewN | apply below_drew1 | refine below_set ?_ GE332.out | refine below_set ?_ GE333.out | refine below_set ?_ GE334.out | refine below_set ?_ GE343.out) | exact HB.out)⟩⟩
        ·rw [if_neg c88] at H
         have c88b0 : (t342 == 0) = false := beq_eq_false_iff_ne.mpr c88
         have c88b1 : (t342 != 0) = true := bne_iff_ne.mpr c88
         (first | rw [c88b0] | (simp only [i64_w, i32_w]; rw [c88b0]) | skip)
         have H' := Aside0.mk H
         clear H
         go_wp2
         go_meet
         case rel => exact ⟨_, (true), (by first | rfl | (simp; done) | (simp [*]; done)), H', ⟨by have := HJ3.out; have := HK2.out; first | omega | exact Nat.le_refl _⟩, ⟨by (with_reducible repeat (first | refine blk_drewN ?_ _ | refine blk_drew ?_ | refine blk_alloc ?_ _)); exact BK332.out⟩, ⟨by (with_reducible repeat (first | refine blk_drewN ?_ _ | refine blk_drew ?_ | refine blk_alloc ?_ _)); exact BK333.out⟩, ⟨by (with_reducible repeat (first | refine blk_drewN ?_ _ | refine blk_drew ?_ | refine blk_alloc ?_ _)); exact BK334.out⟩, ⟨by (with_reducible repeat (first | refine blk_drewN ?_ _ | refine blk_drew ?_ | refine blk_alloc ?_ _)); exact BK343.out⟩, ⟨by repeat (first | (with_reducible first | exact HB.out | apply below_alloc | apply pw_below_drewN | apply below_drew1 | refine below_set ?_ GE332.out | refine below_set ?_ GE333.out | refine below_set ?_ GE334.out | refine below_set ?_ GE343.out) | exact HB.out)⟩⟩
       case rest =>
        clear HC67
        try clear c1
        try clear c2
        try clear p2
        try clear c3
        try clear p3
        try clear q3
        try clear hx3
        try clear c4
        try clear c5
        try clear c6
        try clear p6
        try clear c7
        try clear c8
        try clear c9
        try clear c10
        try clear c11
        try clear c14
        try clear c14b0
        try clear c15
        try clear c16
        try clear c19
        try clear c21
        try clear c21b0
        try clear c22
        try clear c23
        try clear c26
        try clear c28
        try clear c28b0
        try clear c29
        try clear c30
        try clear c33
        try clear p33
        try clear q33
        try clear hx33
        try clear c35
        try clear c35b0
        try clear c36
        try clear c37
        try clear c40
        try clear c42
        try clear c43
        try clear c46
        try clear c49
        try clear c52
        try clear c52b0
        try clear c53
        try clear c53b0
        try clear c54
        try clear c54b0
        try clear c56
        try clear c57
        try clear c60
        try clear c61
        try clear p64
        try clear c68
        try clear c69
        try clear c71
        try clear c76
        try clear c77
        try clear c78
        try clear c88
        try clear c88b0
        try clear c88b1
        try clear c89
        try clear c89b0
        try clear c89b1
        try clear hcz12_0
        try clear hcz12_1
        try clear hcz12_2
        try clear hcz12_3
        try clear hcz12_4
        try clear hcz12_5
        try clear hcz17_0
        try clear hcz17_1
        try clear hcz17_2
        try clear hcz17_3
        try clear hcz17_4
        try clear hcz17_5
        try clear hcz20_0
        try clear hcz20_1
        try clear hcz24_0
        try clear hcz24_1
        try clear hcz24_2
        try clear hcz24_3
        try clear hcz24_4
        try clear hcz24_5
        try clear hcz27_0
        try clear hcz27_1
        try clear hcz31_0
        try clear hcz31_1
        try clear hcz31_2
        try clear hcz31_3
        try clear hcz31_4
        try clear hcz31_5
        try clear hcz34_0
        try clear hcz34_1
        try clear hcz38_0
        try clear hcz38_1
        try clear hcz38_2
        try clear hcz38_3
        try clear hcz38_4
        try clear hcz38_5
        try clear hcz41_0
        try clear hcz41_1
        try clear hcz44_0
        try clear hcz44_1
        try clear hcz44_2
        try clear hcz44_3
        try clear hcz44_4
        try clear hcz44_5
        try clear hcz47_0
        try clear hcz47_1
        try clear hcz48_0
        try clear hcz48_1
        try clear hcz58_0
        try clear hcz58_1
        try clear hcz58_2
        try clear hcz58_3
        try clear hcz58_4
        try clear hcz58_5
        try clear hcz62_0
        try clear hcz62_1
        try clear hcz62_2
        try clear hcz62_3
        try clear hcz62_4
        try clear hcz62_5
        try clear hcz70_0
        try clear hcz70_1
        try clear hcz70_2
        try clear hcz70_3
        try clear hcz70_4
        try clear hcz70_5
        try clear hcz72_0
        try clear hcz72_1
        try clear hcz74_0
        try clear hcz74_1
        try clear hcz79_0
        try clear hcz79_1
        try clear hcz80_0
        try clear hcz80_1
        try clear hcz81_0
        try clear hcz81_1
        try clear hcz82_0
        try clear hcz82_1
        try clear hcz82_2
        try clear hcz82_3
        try clear hcz82_4
        try clear hcz82_5
        try clear hcz84_0
        try clear hcz84_1
        try clear hcz84_2
        try clear hcz84_3
        try clear hcz84_4
        try clear hcz84_5
        try clear hcz85_0
        try clear hcz85_1
        try clear hcz86_0
        try clear hcz86_1
        try clear hfz12_0
        try clear hfz12_1
        try clear hfz12_2
        try clear hfz12_3
        try clear hfz12_4
        try clear hfz12_5
        try clear hfz17_0
        try clear hfz17_1
        try clear hfz17_2
        try clear hfz17_3
        try clear hfz17_4
        try clear hfz17_5
        try clear hfz20_0
        try clear hfz20_1
        try clear hfz24_0
        try clear hfz24_1
        try clear hfz24_2
        try clear hfz24_3
        try clear hfz24_4
        try clear hfz24_5
        try clear hfz27_0
        try clear hfz27_1
        try clear hfz31_0
        try clear hfz31_1
        try clear hfz31_2
        try clear hfz31_3
        try clear hfz31_4
        try clear hfz31_5
        try clear hfz34_0
        try clear hfz34_1
        try clear hfz38_0
        try clear hfz38_1
        try clear hfz38_2
        try clear hfz38_3
        try clear hfz38_4
        try clear hfz38_5
        try clear hfz41_0
        try clear hfz41_1
        try clear hfz44_0
        try clear hfz44_1
        try clear hfz44_2
        try clear hfz44_3
        try clear hfz44_4
        try clear hfz44_5
        try clear hfz47_0
        try clear hfz47_1
        try clear hfz48_0
        try clear hfz48_1
        try clear hfz58_0
        try clear hfz58_1
        try clear hfz58_2
        try clear hfz58_3
        try clear hfz58_4
        try clear hfz58_5
        try clear hfz62_0
        try clear hfz62_1
        try clear hfz62_2
        try clear hfz62_3
        try clear hfz62_4
        try clear hfz62_5
        try clear hfz70_0
        try clear hfz70_1
        try clear hfz70_2
        try clear hfz70_3
        try clear hfz70_4
        try clear hfz70_5
        try clear hfz72_0
        try clear hfz72_1
        try clear hfz74_0
        try clear hfz74_1
        try clear hfz79_0
        try clear hfz79_1
        try clear hfz80_0
        try clear hfz80_1
        try clear hfz81_0
        try clear hfz81_1
        try clear hfz82_0
        try clear hfz82_1
        try clear hfz82_2
        try clear hfz82_3
        try clear hfz82_4
        try clear hfz82_5
        try clear hfz84_0
        try clear hfz84_1
        try clear hfz84_2
        try clear hfz84_3
        try clear hfz84_4
        try clear hfz84_5
        try clear hfz85_0
        try clear hfz85_1
        try clear hfz86_0
        try clear hfz86_1
        try clear hx337_0
        try clear hx337_1
        try clear hx337_2
        try clear hx337_3
        try clear hx337_4
        try clear hx337_5
        try clear p2
        try clear p337
        try clear q337
        obtain ⟨kq, x129_66, rfl, HA, HJ66, BK332, BK333, BK334, BK343, HB⟩ := hcut
        cases kq with
        | zero => exact absurd HA.out (by simp [stickfullaw26_EllipsisGrows.j2])
        | succ kj66 =>
         have H := HA.out
         clear HA
         simp only [stickfullaw26_EllipsisGrows.j2] at H
         by_cases c90 : x129_66 = true
         ·subst c90
          have H1 : (if t342 = t347 then ((stickfullaw26_head.f kj66).bind fun t352 => (some t352)) else (if a1_0 < 0 then ((stickfullaw26_head.f kj66).bind fun t353 => (some t353)) else (some false))) = some r := by rw [if_pos rfl] at H; exact H
          clear H
          have H := H1
          clear H1
          by_cases c91 : t342 = t347
          ·rw [if_pos c91] at H
           have c91b0 : (t342 == t347) = true := beq_iff_eq.mpr c91
           have c91b1 : (t342 != t347) = false := bne_eq_false_iff_eq.mpr c91
           clear c91
           replace H := Option.bind_eq_some_iff.mp H
           obtain ⟨t352, A920, H⟩ := H
           replace H : (some t352) = some r := H
           have A92 := Aside0.mk A920
           clear A920
           obtain rfl := Option.some.inj H
           go_wp2_with (first | (go_at_call 9; (with_reducible refine (stickfullaw26_head.calls kj66  t352 _ A92.out).mono ?_); rintro e w93 ⟨rfl, hb⟩; replace BK332 := bb BK332 hb; replace BK333 := bb BK333 hb; replace BK334 := bb BK334 hb; replace BK343 := bb BK343 hb; replace HB := bh HB hb; (try clear hb); (try clear hb2); (try clear hk); (try clear hi)))
           go_ret
           exact ⟨by first | rfl | (simp [errW_none, errW_some] <;> rfl) | (simp only [← hji65]; first | rfl | (simp [errW_none, errW_some] <;> rfl)) | (simp [*, errW_none, errW_some] <;> rfl), by repeat (first | (with_reducible first | exact HB.out | apply below_alloc | apply pw_below_drewN | apply below_drew1 | refine below_set ?_ GE332.out | refine below_set ?_ GE333.out | refine below_set ?_ GE334.out | refine below_set ?_ GE343.out) | exact HB.out)⟩
          ·rw [if_neg c91] at H
           have c91b0 : (t342 == t347) = false := beq_eq_false_iff_ne.mpr c91
           have c91b1 : (t342 != t347) = true := bne_iff_ne.mpr c91
           by_cases c94 : a1_0 < 0
           ·rw [if_pos c94] at H
            have c94b0 : decide (a1_0 < 0) = true := decide_eq_true c94
            clear c94
            replace H := Option.bind_eq_some_iff.mp H
            obtain ⟨t353, A950, H⟩ := H
            replace H : (some t353) = some r := H
            have A95 := Aside0.mk A950
            clear A950
            obtain rfl := Option.some.inj H
            have hnb96 := NB333_332.out
            have hnc96 := NB332_333.out
            have hnb97 := NB333_334.out
            have hnc97 := NB334_333.out
            have hnb98 := NB333_343.out
            have hnc98 := NB343_333.out
            obtain ⟨hcz99_0, hcz99_1⟩ := cz2 BK333
            obtain ⟨hfz99_0, hfz99_1⟩ := fz2 BK333
            go_wp2_with (first | (go_at_call 9; (with_reducible refine (stickfullaw26_head.calls kj66  t353 _ A95.out).mono ?_); rintro e w100 ⟨rfl, hb⟩; replace BK332 := bb BK332 hb; replace BK333 := bb BK333 hb; replace BK334 := bb BK334 hb; replace BK343 := bb BK343 hb; replace HB := bh HB hb; (try clear hb); (try clear hb2); (try clear hk); (try clear hi)))
            go_ret
            exact ⟨by first | rfl | (simp [errW_none, errW_some] <;> rfl) | (simp only [← hji65]; first | rfl | (simp [errW_none, errW_some] <;> rfl)) | (simp [*, errW_none, errW_some] <;> rfl), by repeat (first | (with_reducible first | exact HB.out | apply below_alloc | apply pw_below_drewN | apply below_drew1 | refine below_set ?_ GE332.out | refine below_set ?_ GE333.out | refine below_set ?_ GE334.out | refine below_set ?_ GE343.out) | exact HB.out)⟩
           ·rw [if_neg c94] at H
            have c94b0 : decide (a1_0 < 0) = false := decide_eq_false c94
            clear c94
            exact absurd ((Option.some.inj H).trans HR_.out) (by decide)
         ·replace c90 := Bool.eq_false_iff.mpr c90
          subst c90
          have H1 : (if t344 ≥ t339 then (if t348 ≤ t339 then ((stickfullaw26_head.f kj66).bind fun t354 => (some t354)) else (some false)) else (some false)) = some r := by rw [if_neg (show ¬ (false = true) by decide)] at H; exact H
          clear H
          have H := H1
          clear H1
          by_cases c101 : t344 ≥ t339
          ·rw [if_pos c101] at H
           have c101b0 : decide (t339 ≤ t344) = true := decide_eq_true c101
           clear c101
           by_cases c102 : t348 ≤ t339
           ·rw [if_pos c102] at H
            have c102b0 : decide (t348 ≤ t339) = true := decide_eq_true c102
            clear c102
            replace H := Option.bind_eq_some_iff.mp H
            obtain ⟨t354, A1030, H⟩ := H
            replace H : (some t354) = some r := H
            have A103 := Aside0.mk A1030
            clear A1030
            obtain rfl := Option.some.inj H
            go_wp2_with (first | (go_at_call 9; (with_reducible refine (stickfullaw26_head.calls kj66  t354 _ A103.out).mono ?_); rintro e w104 ⟨rfl, hb⟩; replace BK332 := bb BK332 hb; replace BK333 := bb BK333 hb; replace BK334 := bb BK334 hb; replace BK343 := bb BK343 hb; replace HB := bh HB hb; (try clear hb); (try clear hb2); (try clear hk); (try clear hi)))
            go_ret
            exact ⟨by first | rfl | (simp [errW_none, errW_some] <;> rfl) | (simp only [← hji65]; first | rfl | (simp [errW_none, errW_some] <;> rfl)) | (simp [*, errW_none, errW_some] <;> rfl), by repeat (first | (with_reducible first | exact HB.out | apply below_alloc | apply pw_below_drewN | apply below_drew1 | refine below_set ?_ GE332.out | refine below_set ?_ GE333.out | refine below_set ?_ GE334.out | refine below_set ?_ GE343.out) | exact HB.out)⟩
           ·rw [if_neg c102] at H
            have c102b0 : decide (t348 ≤ t339) = false := decide_eq_false c102
            clear c102
            exact absurd ((Option.some.inj H).trans HR_.out) (by decide)
          ·rw [if_neg c101] at H
           have c101b0 : decide (t339 ≤ t344) = false := decide_eq_false c101
           clear c101
           exact absurd ((Option.some.inj H).trans HR_.out) (by decide)

end Go.Proofs.Ytkaiibipcnlaiaa.HEll
