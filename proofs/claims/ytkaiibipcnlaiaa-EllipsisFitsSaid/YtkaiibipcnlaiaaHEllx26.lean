-- Written by this claim's own program over the kit's print.
import Derived.Test.YtkaiibipcnlaiaaHEllb
import Derived.Test.YtkaiibipcnlaiaaHEllx0
import Derived.Test.YtkaiibipcnlaiaaHEllx1
import Derived.Test.YtkaiibipcnlaiaaHEllx2
import Derived.Test.YtkaiibipcnlaiaaHEllx12
import Derived.Test.YtkaiibipcnlaiaaHEllx14
import Derived.Test.YtkaiibipcnlaiaaHEllx15
import Derived.Test.YtkaiibipcnlaiaaHEllx25
namespace Go.Proofs.Ytkaiibipcnlaiaa.HEll
open Go.RowKit Go.Proofs.YtkaiibipcnlaiaaW.PrintWords Go.Proofs.YtkaiibipcnlaiaaW.PrintLast Go.Proofs.YtkaiibipcnlaiaaW.PrintMore Go.Proofs.Ytkaiibipcnlaiaa.Hand
attribute [local go_sem] max2_int min2_int max_two min_two max_three min_three max_four min_four   -- for this text's walks alone
set_option linter.unusedVariables false
set_option linter.unusedSimpArgs false

/-! ### stickfullaw26_EllipsisFits: function 7 -/
mutual
def stickfullaw26_EllipsisFits.j0 : Nat → Int → Int → Bool → Bool → List (S53) → List Bool → Int → Int → Bool → Int → Int → Int → Option (Bool)
 | 0, _, _, _, _, _, _, _, _, _, _, _, _ => none
 | k + 1, x5, x6, x7, x77, x384000, x384001, x384002, x384003, x384004, x384005, x385000, x385001 => if x77 = true then (some false) else (if 0 ≤ x384002 then (if x384002 ≤ x384003 then (if x384003 ≤ (x384000.length : Int) then ((some ((x384000.take (x384003 : Int).toNat).drop (x384002 : Int).toNat : List (S53))).bind fun y392 => ((trim_Fits.f y392 x385001).bind fun bt396 => ((trim_Goes.f y392 x385001).bind fun bt398 => (if bt396.2 = 0 then (if bt398.2 = 0 then (if (x7 != (decide (bt396.1 > x385000))) = true then (stickfullaw26_EllipsisFits.j1 k x5 x6 x7 bt398.1 true x384000 x384001 x384002 x384003 x384004 x384005 x385000 x385001) else (if x5 < x384002 then (stickfullaw26_EllipsisFits.j1 k x5 x6 x7 bt398.1 true x384000 x384001 x384002 x384003 x384004 x384005 x385000 x385001) else (stickfullaw26_EllipsisFits.j1 k x5 x6 x7 bt398.1 (decide (x5 > x384003)) x384000 x384001 x384002 x384003 x384004 x384005 x385000 x385001))) else (stickfullaw26_EllipsisFits.j1 k x5 x6 x7 bt398.1 true x384000 x384001 x384002 x384003 x384004 x384005 x385000 x385001)) else (stickfullaw26_EllipsisFits.j1 k x5 x6 x7 bt398.1 true x384000 x384001 x384002 x384003 x384004 x384005 x385000 x385001))))) else (none)) else (none)) else (none))
def stickfullaw26_EllipsisFits.j1 : Nat → Int → Int → Bool → Int → Bool → List (S53) → List Bool → Int → Int → Bool → Int → Int → Int → Option (Bool)
 | 0, _, _, _, _, _, _, _, _, _, _, _, _, _ => none
 | k + 1, x5, x6, x7, x12, x128, x384000, x384001, x384002, x384003, x384004, x384005, x385000, x385001 => if x128 = true then (some false) else (if x7 = true then (if x5 = x384002 then (if x6 = x385001 then ((stickfullaw26_head.f k).bind fun t400 => (some t400)) else (if (wrap64 (x6 + x384005)) ≤ x385000 then (if x5 = x384003 then ((stickfullaw26_head.f k).bind fun t401 => (some t401)) else (if 0 ≤ x5 then (if x5 < (x384001.length : Int) then (if rdOf false x384001 x5 = true then ((stickfullaw26_head.f k).bind fun t403 => (some t403)) else (some false)) else (none)) else (none))) else (some false))) else (if (wrap64 (x6 + x384005)) ≤ x385000 then (if x5 = x384003 then ((stickfullaw26_head.f k).bind fun t404 => (some t404)) else (if 0 ≤ x5 then (if x5 < (x384001.length : Int) then (if rdOf false x384001 x5 = true then ((stickfullaw26_head.f k).bind fun t406 => (some t406)) else (some false)) else (none)) else (none))) else (some false))) else (if x5 = x384003 then (if x6 = x12 then ((stickfullaw26_head.f k).bind fun t407 => (some t407)) else (some false)) else (some false)))
end
def stickfullaw26_EllipsisFits.f (k : Nat) (l0_0 : List (S53)) (l0_1 : List Bool) (a0_2 a0_3 : Int) (a0_4 : Bool) (a0_5 a1_0 a1_1 : Int) : Option (Bool) := (stickfullaw26_great.f l0_0 l0_1 a0_2 a0_3 a0_4 a0_5).bind fun t385 => (if t385 = true then ((stickfullaw26_head.f k).bind fun t386 => (some t386)) else ((ellipsis_Cut.f l0_0 l0_1 a0_2 a0_3 a0_4 a1_0 a1_1 a0_5).bind fun bt387 => (if bt387.2.2.2 = 0 then (if a0_2 < 0 then (stickfullaw26_EllipsisFits.j0 k bt387.1 bt387.2.1 bt387.2.2.1 true l0_0 l0_1 a0_2 a0_3 a0_4 a0_5 a1_0 a1_1) else (if a0_3 < a0_2 then (stickfullaw26_EllipsisFits.j0 k bt387.1 bt387.2.1 bt387.2.2.1 true l0_0 l0_1 a0_2 a0_3 a0_4 a0_5 a1_0 a1_1) else (if a0_3 > (l0_0.length : Int) then (stickfullaw26_EllipsisFits.j0 k bt387.1 bt387.2.1 bt387.2.2.1 true l0_0 l0_1 a0_2 a0_3 a0_4 a0_5 a1_0 a1_1) else (stickfullaw26_EllipsisFits.j0 k bt387.1 bt387.2.1 bt387.2.2.1 ((l0_1.length : Int) != (l0_0.length : Int)) l0_0 l0_1 a0_2 a0_3 a0_4 a0_5 a1_0 a1_1)))) else (if bt387.1 = 0 then (if bt387.2.1 = 0 then (if bt387.2.2.1 = true then (some false) else ((stickfullaw26_head.f k).bind fun t391 => (some t391))) else (some false)) else (some false)))))
theorem stickfullaw26_EllipsisFits.mono_l : ∀ k, (∀ y0 y1 y2 y3 y4 y5 y6 y7 y8 y9 y10 y11, LeO (stickfullaw26_EllipsisFits.j0 k y0 y1 y2 y3 y4 y5 y6 y7 y8 y9 y10 y11) (stickfullaw26_EllipsisFits.j0 (k + 1) y0 y1 y2 y3 y4 y5 y6 y7 y8 y9 y10 y11)) ∧ (∀ y0 y1 y2 y3 y4 y5 y6 y7 y8 y9 y10 y11 y12, LeO (stickfullaw26_EllipsisFits.j1 k y0 y1 y2 y3 y4 y5 y6 y7 y8 y9 y10 y11 y12) (stickfullaw26_EllipsisFits.j1 (k + 1) y0 y1 y2 y3 y4 y5 y6 y7 y8 y9 y10 y11 y12))
 | 0 => ⟨fun _ _ _ _ _ _ _ _ _ _ _ _ r h => by simp [stickfullaw26_EllipsisFits.j0] at h, fun _ _ _ _ _ _ _ _ _ _ _ _ _ r h => by simp [stickfullaw26_EllipsisFits.j1] at h⟩
 | k + 1 => by
  obtain ⟨ih0, ih1⟩ := stickfullaw26_EllipsisFits.mono_l k
  refine ⟨?_, ?_⟩
  ·intro y0 y1 y2 y3 y4 y5 y6 y7 y8 y9 y10 y11
   unfold stickfullaw26_EllipsisFits.j0
   repeat' first
   | (with_reducible exact ih0 _ _ _ _ _ _ _ _ _ _ _ _)
   | (with_reducible exact ih1 _ _ _ _ _ _ _ _ _ _ _ _ _)
   | (with_reducible exact stickfullaw26_head.mono _)
   | (with_reducible exact LeO.refl _)
   | (with_reducible exact LeO.none _)
   | (with_reducible refine LeO.ite ?_ ?_)
   | (with_reducible refine LeO.bind ?_ (fun _ => ?_))
   | exact ih0 _ _ _ _ _ _ _ _ _ _ _ _
   | exact ih1 _ _ _ _ _ _ _ _ _ _ _ _ _
   | exact stickfullaw26_head.mono _
   | exact LeO.none _
   | refine LeO.ite ?_ ?_
   | refine LeO.bind ?_ (fun _ => ?_)
  ·intro y0 y1 y2 y3 y4 y5 y6 y7 y8 y9 y10 y11 y12
   unfold stickfullaw26_EllipsisFits.j1
   repeat' first
   | (with_reducible exact ih0 _ _ _ _ _ _ _ _ _ _ _ _)
   | (with_reducible exact ih1 _ _ _ _ _ _ _ _ _ _ _ _ _)
   | (with_reducible exact stickfullaw26_head.mono _)
   | (with_reducible exact LeO.refl _)
   | (with_reducible exact LeO.none _)
   | (with_reducible refine LeO.ite ?_ ?_)
   | (with_reducible refine LeO.bind ?_ (fun _ => ?_))
   | exact ih0 _ _ _ _ _ _ _ _ _ _ _ _
   | exact ih1 _ _ _ _ _ _ _ _ _ _ _ _ _
   | exact stickfullaw26_head.mono _
   | exact LeO.none _
   | refine LeO.ite ?_ ?_
   | refine LeO.bind ?_ (fun _ => ?_)
theorem stickfullaw26_EllipsisFits.mono : ∀ a0 a1 a2 a3 a4 a5 a6 a7 k, LeO (stickfullaw26_EllipsisFits.f k a0 a1 a2 a3 a4 a5 a6 a7) (stickfullaw26_EllipsisFits.f (k + 1) a0 a1 a2 a3 a4 a5 a6 a7) := by
 intro a0 a1 a2 a3 a4 a5 a6 a7 k
 obtain ⟨ih0, ih1⟩ := stickfullaw26_EllipsisFits.mono_l k
 unfold stickfullaw26_EllipsisFits.f
 repeat' first
   | (with_reducible exact ih0 _ _ _ _ _ _ _ _ _ _ _ _)
   | (with_reducible exact ih1 _ _ _ _ _ _ _ _ _ _ _ _ _)
   | (with_reducible exact stickfullaw26_head.mono _)
   | (with_reducible exact LeO.refl _)
   | (with_reducible exact LeO.none _)
   | (with_reducible refine LeO.ite ?_ ?_)
   | (with_reducible refine LeO.bind ?_ (fun _ => ?_))
   | exact ih0 _ _ _ _ _ _ _ _ _ _ _ _
   | exact ih1 _ _ _ _ _ _ _ _ _ _ _ _ _
   | exact stickfullaw26_head.mono _
   | exact LeO.none _
   | refine LeO.ite ?_ ?_
   | refine LeO.bind ?_ (fun _ => ?_)
set_option maxHeartbeats 8000000 in
set_option maxRecDepth 100000 in
theorem stickfullaw26_EllipsisFits.calls_t (k : Nat) (A0_0 : Option Addr) (c0_0 : Nat) (l0_0 : List (S53)) (A0_1 : Option Addr) (c0_1 : Nat) (l0_1 : List Bool) (a0_2 a0_3 : Int) (a0_4 : Bool) (a0_5 a1_0 a1_1 : Int) (r : Bool) (w : World) (hr0_0 : Kd.C k53 w A0_0 l0_0.length l0_0) (hc0_0 : l0_0.length ≤ c0_0) (hr0_1 : Kd.C Kd.bool w A0_1 l0_1.length l0_1) (hc0_1 : l0_1.length ≤ c0_1) (h : stickfullaw26_EllipsisFits.f k l0_0 l0_1 a0_2 a0_3 a0_4 a0_5 a1_0 a1_1 = some r) (hr_ : r = true) :
  Calls Try.prog 7 #[.agg #[.slice A0_0 l0_0.length c0_0, .slice A0_1 l0_1.length c0_1, .int .i64 a0_2, .int .i64 a0_3, .bool a0_4, .int .i64 a0_5], .agg #[.int .i64 a1_0, .int .i64 a1_1]] w fun e w' => e = .returned (.bool r) ∧ Below w.heap.size w w' := by
 have hu27 := Try.underlying27
 have hu29 := Try.underlying29
 have hu25 := Try.underlying25
 have HR_ := Aside0.mk hr_
 clear hr_
 have HR0_0 := Aside0.mk hr0_0
 have HC0_0 := Aside0.mk hc0_0
 clear hr0_0 hc0_0
 have HR0_1 := Aside0.mk hr0_1
 have HC0_1 := Aside0.mk hc0_1
 clear hr0_1 hc0_1
 have HB := Aside0.mk (Below.refl w.heap.size w)
 have H : ((stickfullaw26_great.f l0_0 l0_1 a0_2 a0_3 a0_4 a0_5).bind fun t385 => (if t385 = true then ((stickfullaw26_head.f k).bind fun t386 => (some t386)) else ((ellipsis_Cut.f l0_0 l0_1 a0_2 a0_3 a0_4 a1_0 a1_1 a0_5).bind fun bt387 => (if bt387.2.2.2 = 0 then (if a0_2 < 0 then (stickfullaw26_EllipsisFits.j0 k bt387.1 bt387.2.1 bt387.2.2.1 true l0_0 l0_1 a0_2 a0_3 a0_4 a0_5 a1_0 a1_1) else (if a0_3 < a0_2 then (stickfullaw26_EllipsisFits.j0 k bt387.1 bt387.2.1 bt387.2.2.1 true l0_0 l0_1 a0_2 a0_3 a0_4 a0_5 a1_0 a1_1) else (if a0_3 > (l0_0.length : Int) then (stickfullaw26_EllipsisFits.j0 k bt387.1 bt387.2.1 bt387.2.2.1 true l0_0 l0_1 a0_2 a0_3 a0_4 a0_5 a1_0 a1_1) else (stickfullaw26_EllipsisFits.j0 k bt387.1 bt387.2.1 bt387.2.2.1 ((l0_1.length : Int) != (l0_0.length : Int)) l0_0 l0_1 a0_2 a0_3 a0_4 a0_5 a1_0 a1_1)))) else (if bt387.1 = 0 then (if bt387.2.1 = 0 then (if bt387.2.2.1 = true then (some false) else ((stickfullaw26_head.f k).bind fun t391 => (some t391))) else (some false)) else (some false)))))) = some r := h
 clear h
 replace H := Option.bind_eq_some_iff.mp H
 obtain ⟨t385, A30, H⟩ := H
 replace H : (if t385 = true then ((stickfullaw26_head.f k).bind fun t386 => (some t386)) else ((ellipsis_Cut.f l0_0 l0_1 a0_2 a0_3 a0_4 a1_0 a1_1 a0_5).bind fun bt387 => (if bt387.2.2.2 = 0 then (if a0_2 < 0 then (stickfullaw26_EllipsisFits.j0 k bt387.1 bt387.2.1 bt387.2.2.1 true l0_0 l0_1 a0_2 a0_3 a0_4 a0_5 a1_0 a1_1) else (if a0_3 < a0_2 then (stickfullaw26_EllipsisFits.j0 k bt387.1 bt387.2.1 bt387.2.2.1 true l0_0 l0_1 a0_2 a0_3 a0_4 a0_5 a1_0 a1_1) else (if a0_3 > (l0_0.length : Int) then (stickfullaw26_EllipsisFits.j0 k bt387.1 bt387.2.1 bt387.2.2.1 true l0_0 l0_1 a0_2 a0_3 a0_4 a0_5 a1_0 a1_1) else (stickfullaw26_EllipsisFits.j0 k bt387.1 bt387.2.1 bt387.2.2.1 ((l0_1.length : Int) != (l0_0.length : Int)) l0_0 l0_1 a0_2 a0_3 a0_4 a0_5 a1_0 a1_1)))) else (if bt387.1 = 0 then (if bt387.2.1 = 0 then (if bt387.2.2.1 = true then (some false) else ((stickfullaw26_head.f k).bind fun t391 => (some t391))) else (some false)) else (some false))))) = some r := H
 have A3 := Aside0.mk A30
 clear A30
 by_cases c4 : t385 = true
 ·subst c4
  have H1 : ((stickfullaw26_head.f k).bind fun t386 => (some t386)) = some r := by rw [if_pos rfl] at H; exact H
  clear H
  have H := H1
  clear H1
  replace H := Option.bind_eq_some_iff.mp H
  obtain ⟨t386, A50, H⟩ := H
  replace H : (some t386) = some r := H
  have A5 := Aside0.mk A50
  clear A50
  obtain rfl := Option.some.inj H
  go_enter Try.func7, Try.ntmps7
  go_wp2_with (first | ((with_reducible refine gate_dst (N := 2) rfl ?_); (try (refine gate_guard (by rfl) ?_; dsimp only)); refine box_event ?hg (N := 2) ?hd (cs := #[.slice A0_0 l0_0.length c0_0, .slice A0_1 l0_1.length c0_1, .int .i64 a0_2, .int .i64 a0_3, .bool a0_4, .int .i64 a0_5]) (t := 27) ?hr ?_; (case hd => rfl); (case hg => rfl); (case hr => first | (go_simp; done) | (go_simp; rfl)); intro gb383 hg w6 hbox hb; have BK383 := Aside0.mk (hbox); have GW383 := bge HB hg; have GE383 := bge HB hg; replace HB := bh HB hb; clear hb hbox hg) | ((with_reducible refine gate_dst (N := 3) rfl ?_); (try (refine gate_guard (by rfl) ?_; dsimp only)); refine box_event ?hg (N := 3) ?hd (cs := #[.int .i64 a1_0, .int .i64 a1_1]) (t := 29) ?hr ?_; (case hd => rfl); (case hg => rfl); (case hr => first | (go_simp; done) | (go_simp; rfl)); intro gb384 hg w7 hbox hb; have BK384 := Aside0.mk (hbox); have GW384 := bge HB hg; have GE384 := bge HB hg; replace HB := bh HB hb; have NB383_384 := nbl BK383 hg; have NB384_383 := nbg BK383 hg; replace BK383 := bb BK383 hb; clear hb hbox hg; have hnb8 := NB383_384.out; have hnc8 := NB384_383.out; obtain ⟨hcz9_0, hcz9_1, hcz9_2, hcz9_3, hcz9_4, hcz9_5⟩ := cz6 BK383; obtain ⟨hfz9_0, hfz9_1, hfz9_2, hfz9_3, hfz9_4, hfz9_5⟩ := fz6 BK383) | ((with_reducible refine gate_callee (f := 8) rfl ?_); refine goesB (some 15) rfl rfl Try.func8 #[.agg #[.slice A0_0 l0_0.length c0_0, .slice A0_1 l0_1.length c0_1, .int .i64 a0_2, .int .i64 a0_3, .bool a0_4, .int .i64 a0_5]] rfl ?_; (with_reducible refine (stickfullaw26_great.calls _ _ l0_0 _ _ l0_1 a0_2 a0_3 a0_4 a0_5 true _ ?side1 ?side2 ?side3 ?side4 A3.out).mono ?_); (case side1 => repeat (first | exact (Kd.C_below HR0_0.out HB.out) | (with_reducible refine Kd.C_alloc ?_ _) | (with_reducible refine Kd.C_drewN ?_ _) | (with_reducible refine Kd.C_drew ?_))); (case side2 => exact HC0_0.out); (case side3 => repeat (first | exact (Kd.C_below HR0_1.out HB.out) | (with_reducible refine Kd.C_alloc ?_ _) | (with_reducible refine Kd.C_drewN ?_ _) | (with_reducible refine Kd.C_drew ?_))); (case side4 => exact HC0_1.out); rintro e w10 ⟨rfl, hb⟩; refine ⟨_, rfl, ?_⟩; replace BK383 := bb BK383 hb; replace BK384 := bb BK384 hb; replace HB := bh HB hb; (try clear hb); (try clear hb2); (try clear hk); (try clear hi)) | ((with_reducible refine gate_callee (f := 9) rfl ?_); refine goesB (some 16) rfl rfl Try.func9 #[] rfl ?_; (with_reducible refine (stickfullaw26_head.calls k  t386 _ A5.out).mono ?_); rintro e w11 ⟨rfl, hb⟩; refine ⟨_, rfl, ?_⟩; replace BK383 := bb BK383 hb; replace BK384 := bb BK384 hb; replace HB := bh HB hb; (try clear hb); (try clear hb2); (try clear hk); (try clear hi)))
  go_ret
  exact ⟨by first | rfl | (simp [errW_none, errW_some] <;> rfl) | (simp [*, errW_none, errW_some] <;> rfl), by repeat (first | (with_reducible first | exact HB.out | apply below_alloc | apply pw_below_drewN | apply below_drew1 | refine below_set ?_ GE383.out | refine below_set ?_ GE384.out) | exact HB.out)⟩
 ·replace c4 := Bool.eq_false_iff.mpr c4
  subst c4
  have H1 : ((ellipsis_Cut.f l0_0 l0_1 a0_2 a0_3 a0_4 a1_0 a1_1 a0_5).bind fun bt387 => (if bt387.2.2.2 = 0 then (if a0_2 < 0 then (stickfullaw26_EllipsisFits.j0 k bt387.1 bt387.2.1 bt387.2.2.1 true l0_0 l0_1 a0_2 a0_3 a0_4 a0_5 a1_0 a1_1) else (if a0_3 < a0_2 then (stickfullaw26_EllipsisFits.j0 k bt387.1 bt387.2.1 bt387.2.2.1 true l0_0 l0_1 a0_2 a0_3 a0_4 a0_5 a1_0 a1_1) else (if a0_3 > (l0_0.length : Int) then (stickfullaw26_EllipsisFits.j0 k bt387.1 bt387.2.1 bt387.2.2.1 true l0_0 l0_1 a0_2 a0_3 a0_4 a0_5 a1_0 a1_1) else (stickfullaw26_EllipsisFits.j0 k bt387.1 bt387.2.1 bt387.2.2.1 ((l0_1.length : Int) != (l0_0.length : Int)) l0_0 l0_1 a0_2 a0_3 a0_4 a0_5 a1_0 a1_1)))) else (if bt387.1 = 0 then (if bt387.2.1 = 0 then (if bt387.2.2.1 = true then (some false) else ((stickfullaw26_head.f k).bind fun t391 => (some t391))) else (some false)) else (some false)))) = some r := by rw [if_neg (show ¬ (false = true) by decide)] at H; exact H
  clear H
  have H := H1
  clear H1
  replace H := Option.bind_eq_some_iff.mp H
  obtain ⟨⟨t387, t388, t389, t390⟩, A120, H⟩ := H
  replace H : (if t390 = 0 then (if a0_2 < 0 then (stickfullaw26_EllipsisFits.j0 k t387 t388 t389 true l0_0 l0_1 a0_2 a0_3 a0_4 a0_5 a1_0 a1_1) else (if a0_3 < a0_2 then (stickfullaw26_EllipsisFits.j0 k t387 t388 t389 true l0_0 l0_1 a0_2 a0_3 a0_4 a0_5 a1_0 a1_1) else (if a0_3 > (l0_0.length : Int) then (stickfullaw26_EllipsisFits.j0 k t387 t388 t389 true l0_0 l0_1 a0_2 a0_3 a0_4 a0_5 a1_0 a1_1) else (stickfullaw26_EllipsisFits.j0 k t387 t388 t389 ((l0_1.length : Int) != (l0_0.length : Int)) l0_0 l0_1 a0_2 a0_3 a0_4 a0_5 a1_0 a1_1)))) else (if t387 = 0 then (if t388 = 0 then (if t389 = true then (some false) else ((stickfullaw26_head.f k).bind fun t391 => (some t391))) else (some false)) else (some false))) = some r := H
  have A12 := Aside0.mk A120
  clear A120
  by_cases c13 : t390 = 0
  ·rw [if_pos c13] at H
   have c13b0 : (t390 == 0) = true := beq_iff_eq.mpr c13
   have c13b1 : (t390 != 0) = false := bne_eq_false_iff_eq.mpr c13
   clear c13
   have HC14 := Aside0.mk H
   clear H
   go_enter Try.func7, Try.ntmps7
   go_upto_region 6 with (first | ((with_reducible refine gate_dst (N := 2) rfl ?_); (try (refine gate_guard (by rfl) ?_; dsimp only)); refine box_event ?hg (N := 2) ?hd (cs := #[.slice A0_0 l0_0.length c0_0, .slice A0_1 l0_1.length c0_1, .int .i64 a0_2, .int .i64 a0_3, .bool a0_4, .int .i64 a0_5]) (t := 27) ?hr ?_; (case hd => rfl); (case hg => rfl); (case hr => first | (go_simp; done) | (go_simp; rfl)); intro gb383 hg w15 hbox hb; have BK383 := Aside0.mk (hbox); have GW383 := bge HB hg; have GE383 := bge HB hg; replace HB := bh HB hb; clear hb hbox hg) | ((with_reducible refine gate_dst (N := 3) rfl ?_); (try (refine gate_guard (by rfl) ?_; dsimp only)); refine box_event ?hg (N := 3) ?hd (cs := #[.int .i64 a1_0, .int .i64 a1_1]) (t := 29) ?hr ?_; (case hd => rfl); (case hg => rfl); (case hr => first | (go_simp; done) | (go_simp; rfl)); intro gb384 hg w16 hbox hb; have BK384 := Aside0.mk (hbox); have GW384 := bge HB hg; have GE384 := bge HB hg; replace HB := bh HB hb; have NB383_384 := nbl BK383 hg; have NB384_383 := nbg BK383 hg; replace BK383 := bb BK383 hb; clear hb hbox hg; have hnb17 := NB383_384.out; have hnc17 := NB384_383.out; obtain ⟨hcz18_0, hcz18_1, hcz18_2, hcz18_3, hcz18_4, hcz18_5⟩ := cz6 BK383; obtain ⟨hfz18_0, hfz18_1, hfz18_2, hfz18_3, hfz18_4, hfz18_5⟩ := fz6 BK383) | ((with_reducible refine gate_callee (f := 8) rfl ?_); refine goesB (some 15) rfl rfl Try.func8 #[.agg #[.slice A0_0 l0_0.length c0_0, .slice A0_1 l0_1.length c0_1, .int .i64 a0_2, .int .i64 a0_3, .bool a0_4, .int .i64 a0_5]] rfl ?_; (with_reducible refine (stickfullaw26_great.calls _ _ l0_0 _ _ l0_1 a0_2 a0_3 a0_4 a0_5 false _ ?side1 ?side2 ?side3 ?side4 A3.out).mono ?_); (case side1 => repeat (first | exact (Kd.C_below HR0_0.out HB.out) | (with_reducible refine Kd.C_alloc ?_ _) | (with_reducible refine Kd.C_drewN ?_ _) | (with_reducible refine Kd.C_drew ?_))); (case side2 => exact HC0_0.out); (case side3 => repeat (first | exact (Kd.C_below HR0_1.out HB.out) | (with_reducible refine Kd.C_alloc ?_ _) | (with_reducible refine Kd.C_drewN ?_ _) | (with_reducible refine Kd.C_drew ?_))); (case side4 => exact HC0_1.out); rintro e w19 ⟨rfl, hb⟩; refine ⟨_, rfl, ?_⟩; replace BK383 := bb BK383 hb; replace BK384 := bb BK384 hb; replace HB := bh HB hb; (try clear hb); (try clear hb2); (try clear hk); (try clear hi); obtain ⟨hcz20_0, hcz20_1, hcz20_2, hcz20_3, hcz20_4, hcz20_5⟩ := cz6 BK383; obtain ⟨hfz20_0, hfz20_1, hfz20_2, hfz20_3, hfz20_4, hfz20_5⟩ := fz6 BK383; obtain ⟨hcz21_0, hcz21_1⟩ := cz2 BK384; obtain ⟨hfz21_0, hfz21_1⟩ := fz2 BK384) | ((with_reducible refine gate_callee (f := 10) rfl ?_); refine goesB (some 27) rfl rfl Try.func10 #[.slice A0_0 l0_0.length c0_0, .slice A0_1 l0_1.length c0_1, .agg #[.int .i64 a0_2, .int .i64 a0_3, .bool a0_4], .agg #[.int .i64 a1_0, .int .i64 a1_1], .int .i64 a0_5] rfl ?_; (with_reducible refine (ellipsis_Cut.calls _ _ l0_0 _ _ l0_1 a0_2 a0_3 a0_4 a1_0 a1_1 a0_5 t387 t388 t389 t390 _ ?side1 ?side2 ?side3 ?side4 A12.out).mono ?_); (case side1 => repeat (first | exact (Kd.C_below HR0_0.out HB.out) | (with_reducible refine Kd.C_alloc ?_ _) | (with_reducible refine Kd.C_drewN ?_ _) | (with_reducible refine Kd.C_drew ?_))); (case side2 => exact HC0_0.out); (case side3 => repeat (first | exact (Kd.C_below HR0_1.out HB.out) | (with_reducible refine Kd.C_alloc ?_ _) | (with_reducible refine Kd.C_drewN ?_ _) | (with_reducible refine Kd.C_drew ?_))); (case side4 => exact HC0_1.out); rintro e w22 ⟨rfl, hb⟩; refine ⟨_, rfl, ?_⟩; replace BK383 := bb BK383 hb; replace BK384 := bb BK384 hb; replace HB := bh HB hb; (try clear hb); (try clear hb2); (try clear hk); (try clear hi)))
   (try simp only [Act.put, List.setIfInBounds_toArray, List.set_cons_zero, List.set_cons_succ])
   go_cut [77] (fun v77 wc => ∃ (kq : Nat) (x77_13 : Bool), v77 = .bool x77_13 ∧ Aside0 (stickfullaw26_EllipsisFits.j0 kq t387 t388 t389 x77_13 l0_0 l0_1 a0_2 a0_3 a0_4 a0_5 a1_0 a1_1 = some r) ∧ Aside0 (kq ≤ k) ∧ Aside0 (wc.heap[gb383]? = some (.cells #[(.slice A0_0 l0_0.length c0_0), (.slice A0_1 l0_1.length c0_1), .int .i64 a0_2, .int .i64 a0_3, .bool a0_4, .int .i64 a0_5] 27 (0, 0))) ∧ Aside0 (wc.heap[gb384]? = some (.cells #[.int .i64 a1_0, .int .i64 a1_1] 29 (0, 0))) ∧ Aside0 (Below w.heap.size w wc))
   case first =>
    have H := HC14.out
    clear HC14
    by_cases c23 : a0_2 < 0
    ·rw [if_pos c23] at H
     have c23b0 : decide (a0_2 < 0) = true := decide_eq_true c23
     clear c23
     (first | rw [c23b0] | (simp only [i64_w, i32_w]; rw [c23b0]) | skip)
     have H' := Aside0.mk H
     clear H
     have hnb24 := NB383_384.out
     have hnc24 := NB384_383.out
     obtain ⟨hcz25_0, hcz25_1, hcz25_2, hcz25_3, hcz25_4, hcz25_5⟩ := cz6 BK383
     obtain ⟨hfz25_0, hfz25_1, hfz25_2, hfz25_3, hfz25_4, hfz25_5⟩ := fz6 BK383
     go_wp2
     go_meet
     case rel => exact ⟨_, (true), (by first | rfl | (simp; done) | (simp [*]; done)), H', ⟨by first | omega | exact Nat.le_refl _⟩, ⟨by (with_reducible repeat (first | refine blk_drewN ?_ _ | refine blk_drew ?_ | refine blk_alloc ?_ _)); exact BK383.out⟩, ⟨by (with_reducible repeat (first | refine blk_drewN ?_ _ | refine blk_drew ?_ | refine blk_alloc ?_ _)); exact BK384.out⟩, ⟨by repeat (first | (with_reducible first | exact HB.out | apply below_alloc | apply pw_below_drewN | apply below_drew1 | refine below_set ?_ GE383.out | refine below_set ?_ GE384.out) | exact HB.out)⟩⟩
    ·rw [if_neg c23] at H
     have c23b0 : decide (a0_2 < 0) = false := decide_eq_false c23
     clear c23
     (first | rw [c23b0] | (simp only [i64_w, i32_w]; rw [c23b0]) | skip)
     by_cases c26 : a0_3 < a0_2
     ·rw [if_pos c26] at H
      have c26b0 : decide (a0_3 < a0_2) = true := decide_eq_true c26
      clear c26
      have H' := Aside0.mk H
      clear H
      have hnb27 := NB383_384.out
      have hnc27 := NB384_383.out
      obtain ⟨hcz28_0, hcz28_1, hcz28_2, hcz28_3, hcz28_4, hcz28_5⟩ := cz6 BK383
      obtain ⟨hfz28_0, hfz28_1, hfz28_2, hfz28_3, hfz28_4, hfz28_5⟩ := fz6 BK383
      go_wp2
      go_meet
      case rel => exact ⟨_, (true), (by first | rfl | (simp; done) | (simp [*]; done)), H', ⟨by first | omega | exact Nat.le_refl _⟩, ⟨by (with_reducible repeat (first | refine blk_drewN ?_ _ | refine blk_drew ?_ | refine blk_alloc ?_ _)); exact BK383.out⟩, ⟨by (with_reducible repeat (first | refine blk_drewN ?_ _ | refine blk_drew ?_ | refine blk_alloc ?_ _)); exact BK384.out⟩, ⟨by repeat (first | (with_reducible first | exact HB.out | apply below_alloc | apply pw_below_drewN | apply below_drew1 | refine below_set ?_ GE383.out | refine below_set ?_ GE384.out) | exact HB.out)⟩⟩
     ·rw [if_neg c26] at H
      have c26b0 : decide (a0_3 < a0_2) = false := decide_eq_false c26
      clear c26
      by_cases c29 : a0_3 > (l0_0.length : Int)
      ·rw [if_pos c29] at H
       have c29b0 : decide ((l0_0.length : Int) < a0_3) = true := decide_eq_true c29
       clear c29
       have H' := Aside0.mk H
       clear H
       have hnb30 := NB383_384.out
       have hnc30 := NB384_383.out
       obtain ⟨hcz31_0, hcz31_1, hcz31_2, hcz31_3, hcz31_4, hcz31_5⟩ := cz6 BK383
       obtain ⟨hfz31_0, hfz31_1, hfz31_2, hfz31_3, hfz31_4, hfz31_5⟩ := fz6 BK383
       go_wp2
       go_meet
       case rel => exact ⟨_, (true), (by first | rfl | (simp; done) | (simp [*]; done)), H', ⟨by first | omega | exact Nat.le_refl _⟩, ⟨by (with_reducible repeat (first | refine blk_drewN ?_ _ | refine blk_drew ?_ | refine blk_alloc ?_ _)); exact BK383.out⟩, ⟨by (with_reducible repeat (first | refine blk_drewN ?_ _ | refine blk_drew ?_ | refine blk_alloc ?_ _)); exact BK384.out⟩, ⟨by repeat (first | (with_reducible first | exact HB.out | apply below_alloc | apply pw_below_drewN | apply below_drew1 | refine below_set ?_ GE383.out | refine below_set ?_ GE384.out) | exact HB.out)⟩⟩
      ·rw [if_neg c29] at H
       have c29b0 : decide ((l0_0.length : Int) < a0_3) = false := decide_eq_false c29
       clear c29
       have H' := Aside0.mk H
       clear H
       have hnb32 := NB383_384.out
       have hnc32 := NB384_383.out
       obtain ⟨hcz33_0, hcz33_1, hcz33_2, hcz33_3, hcz33_4, hcz33_5⟩ := cz6 BK383
       obtain ⟨hfz33_0, hfz33_1, hfz33_2, hfz33_3, hfz33_4, hfz33_5⟩ := fz6 BK383
       go_wp2
       go_meet
       case rel => exact ⟨_, (((l0_1.length : Int) != (l0_0.length : Int))), (by first | rfl | (simp; done) | (simp [*]; done)), H', ⟨by first | omega | exact Nat.le_refl _⟩, ⟨by (with_reducible repeat (first | refine blk_drewN ?_ _ | refine blk_drew ?_ | refine blk_alloc ?_ _)); exact BK383.out⟩, ⟨by (with_reducible repeat (first | refine blk_drewN ?_ _ | refine blk_drew ?_ | refine blk_alloc ?_ _)); exact BK384.out⟩, ⟨by repeat (first | (with_reducible first | exact HB.out | apply below_alloc | apply pw_below_drewN | apply below_drew1 | refine below_set ?_ GE383.out | refine below_set ?_ GE384.out) | exact HB.out)⟩⟩
   case rest =>
    clear HC14
    try clear c1
    try clear c2
    try clear p2
    try clear c3
    try clear c4
    try clear c7
    try clear c8
    try clear c9
    try clear c10
    try clear c13
    try clear c13b0
    try clear c13b1
    try clear c17
    try clear c23
    try clear c23b0
    try clear c24
    try clear c26
    try clear c26b0
    try clear c27
    try clear c29
    try clear c29b0
    try clear c30
    try clear c32
    try clear hcz18_0
    try clear hcz18_1
    try clear hcz18_2
    try clear hcz18_3
    try clear hcz18_4
    try clear hcz18_5
    try clear hcz20_0
    try clear hcz20_1
    try clear hcz20_2
    try clear hcz20_3
    try clear hcz20_4
    try clear hcz20_5
    try clear hcz21_0
    try clear hcz21_1
    try clear hcz25_0
    try clear hcz25_1
    try clear hcz25_2
    try clear hcz25_3
    try clear hcz25_4
    try clear hcz25_5
    try clear hcz28_0
    try clear hcz28_1
    try clear hcz28_2
    try clear hcz28_3
    try clear hcz28_4
    try clear hcz28_5
    try clear hcz31_0
    try clear hcz31_1
    try clear hcz31_2
    try clear hcz31_3
    try clear hcz31_4
    try clear hcz31_5
    try clear hcz33_0
    try clear hcz33_1
    try clear hcz33_2
    try clear hcz33_3
    try clear hcz33_4
    try clear hcz33_5
    try clear hcz9_0
    try clear hcz9_1
    try clear hcz9_2
    try clear hcz9_3
    try clear hcz9_4
    try clear hcz9_5
    try clear hfz18_0
    try clear hfz18_1
    try clear hfz18_2
    try clear hfz18_3
    try clear hfz18_4
    try clear hfz18_5
    try clear hfz20_0
    try clear hfz20_1
    try clear hfz20_2
    try clear hfz20_3
    try clear hfz20_4
    try clear hfz20_5
    try clear hfz21_0
    try clear hfz21_1
    try clear hfz25_0
    try clear hfz25_1
    try clear hfz25_2
    try clear hfz25_3
    try clear hfz25_4
    try clear hfz25_5
    try clear hfz28_0
    try clear hfz28_1
    try clear hfz28_2
    try clear hfz28_3
    try clear hfz28_4
    try clear hfz28_5
    try clear hfz31_0
    try clear hfz31_1
    try clear hfz31_2
    try clear hfz31_3
    try clear hfz31_4
    try clear hfz31_5
    try clear hfz33_0
    try clear hfz33_1
    try clear hfz33_2
    try clear hfz33_3
    try clear hfz33_4
    try clear hfz33_5
    try clear hfz9_0
    try clear hfz9_1
    try clear hfz9_2
    try clear hfz9_3
    try clear hfz9_4
    try clear hfz9_5
    obtain ⟨kq, x77_13, rfl, HA, HJ13, BK383, BK384, HB⟩ := hcut
    cases kq with
    | zero => exact absurd HA.out (by simp [stickfullaw26_EllipsisFits.j0])
    | succ kj13 =>
     have H := HA.out
     clear HA
     simp only [stickfullaw26_EllipsisFits.j0] at H
     by_cases c34 : x77_13 = true
     ·subst c34
      have H1 : (some false) = some r := by rw [if_pos rfl] at H; exact H
      clear H
      have H := H1
      clear H1
      exact absurd ((Option.some.inj H).trans HR_.out) (by decide)
     ·replace c34 := Bool.eq_false_iff.mpr c34
      subst c34
      have H1 : (if 0 ≤ a0_2 then (if a0_2 ≤ a0_3 then (if a0_3 ≤ (l0_0.length : Int) then ((some ((l0_0.take (a0_3 : Int).toNat).drop (a0_2 : Int).toNat : List (S53))).bind fun y392 => ((trim_Fits.f y392 a1_1).bind fun bt396 => ((trim_Goes.f y392 a1_1).bind fun bt398 => (if bt396.2 = 0 then (if bt398.2 = 0 then (if (t389 != (decide (bt396.1 > a1_0))) = true then (stickfullaw26_EllipsisFits.j1 kj13 t387 t388 t389 bt398.1 true l0_0 l0_1 a0_2 a0_3 a0_4 a0_5 a1_0 a1_1) else (if t387 < a0_2 then (stickfullaw26_EllipsisFits.j1 kj13 t387 t388 t389 bt398.1 true l0_0 l0_1 a0_2 a0_3 a0_4 a0_5 a1_0 a1_1) else (stickfullaw26_EllipsisFits.j1 kj13 t387 t388 t389 bt398.1 (decide (t387 > a0_3)) l0_0 l0_1 a0_2 a0_3 a0_4 a0_5 a1_0 a1_1))) else (stickfullaw26_EllipsisFits.j1 kj13 t387 t388 t389 bt398.1 true l0_0 l0_1 a0_2 a0_3 a0_4 a0_5 a1_0 a1_1)) else (stickfullaw26_EllipsisFits.j1 kj13 t387 t388 t389 bt398.1 true l0_0 l0_1 a0_2 a0_3 a0_4 a0_5 a1_0 a1_1))))) else (none)) else (none)) else (none)) = some r := by rw [if_neg (show ¬ (false = true) by decide)] at H; exact H
      clear H
      have H := H1
      clear H1
      by_cases c35 : 0 ≤ a0_2
      ·rw [if_pos c35] at H
       have c35b0 := eq_true c35
       have c35b1 : decide (0 ≤ a0_2) = true := decide_eq_true c35
       clear c35
       by_cases c36 : a0_2 ≤ a0_3
       ·rw [if_pos c36] at H
        have c36b0 := eq_true c36
        have c36b1 : decide (a0_2 ≤ a0_3) = true := decide_eq_true c36
        clear c36
        by_cases c37 : a0_3 ≤ (l0_0.length : Int)
        ·rw [if_pos c37] at H
         have c37b0 := eq_true c37
         have c37b1 : decide (a0_3 ≤ (l0_0.length : Int)) = true := decide_eq_true c37
         clear c37
         obtain ⟨y392, hy392⟩ : ∃ y_ : List (S53), y_ = ((l0_0.take (a0_3 : Int).toNat).drop (a0_2 : Int).toNat) := ⟨_, rfl⟩
         replace H : ((trim_Fits.f y392 a1_1).bind fun bt396 => ((trim_Goes.f y392 a1_1).bind fun bt398 => (if bt396.2 = 0 then (if bt398.2 = 0 then (if (t389 != (decide (bt396.1 > a1_0))) = true then (stickfullaw26_EllipsisFits.j1 kj13 t387 t388 t389 bt398.1 true l0_0 l0_1 a0_2 a0_3 a0_4 a0_5 a1_0 a1_1) else (if t387 < a0_2 then (stickfullaw26_EllipsisFits.j1 kj13 t387 t388 t389 bt398.1 true l0_0 l0_1 a0_2 a0_3 a0_4 a0_5 a1_0 a1_1) else (stickfullaw26_EllipsisFits.j1 kj13 t387 t388 t389 bt398.1 (decide (t387 > a0_3)) l0_0 l0_1 a0_2 a0_3 a0_4 a0_5 a1_0 a1_1))) else (stickfullaw26_EllipsisFits.j1 kj13 t387 t388 t389 bt398.1 true l0_0 l0_1 a0_2 a0_3 a0_4 a0_5 a1_0 a1_1)) else (stickfullaw26_EllipsisFits.j1 kj13 t387 t388 t389 bt398.1 true l0_0 l0_1 a0_2 a0_3 a0_4 a0_5 a1_0 a1_1)))) = some r := by first | (rw [hy392]; with_reducible exact H) | (have H2_ := (Option.bind_some _ _).symm.trans H; rw [hy392]; with_reducible exact H2_) | (have H2_ := (Option.bind_some _ _).symm.trans H; with_reducible exact H2_) | with_reducible exact H | (rw [hy392]; exact H) | exact H
         have Ny392 := Aside0.mk hy392
         clear hy392
         replace H := Option.bind_eq_some_iff.mp H
         obtain ⟨⟨t396, t397⟩, A380, H⟩ := H
         replace H : ((trim_Goes.f y392 a1_1).bind fun bt398 => (if t397 = 0 then (if bt398.2 = 0 then (if (t389 != (decide (t396 > a1_0))) = true then (stickfullaw26_EllipsisFits.j1 kj13 t387 t388 t389 bt398.1 true l0_0 l0_1 a0_2 a0_3 a0_4 a0_5 a1_0 a1_1) else (if t387 < a0_2 then (stickfullaw26_EllipsisFits.j1 kj13 t387 t388 t389 bt398.1 true l0_0 l0_1 a0_2 a0_3 a0_4 a0_5 a1_0 a1_1) else (stickfullaw26_EllipsisFits.j1 kj13 t387 t388 t389 bt398.1 (decide (t387 > a0_3)) l0_0 l0_1 a0_2 a0_3 a0_4 a0_5 a1_0 a1_1))) else (stickfullaw26_EllipsisFits.j1 kj13 t387 t388 t389 bt398.1 true l0_0 l0_1 a0_2 a0_3 a0_4 a0_5 a1_0 a1_1)) else (stickfullaw26_EllipsisFits.j1 kj13 t387 t388 t389 bt398.1 true l0_0 l0_1 a0_2 a0_3 a0_4 a0_5 a1_0 a1_1))) = some r := H
         have A38 := Aside0.mk A380
         clear A380
         replace H := Option.bind_eq_some_iff.mp H
         obtain ⟨⟨t398, t399⟩, A390, H⟩ := H
         replace H : (if t397 = 0 then (if t399 = 0 then (if (t389 != (decide (t396 > a1_0))) = true then (stickfullaw26_EllipsisFits.j1 kj13 t387 t388 t389 t398 true l0_0 l0_1 a0_2 a0_3 a0_4 a0_5 a1_0 a1_1) else (if t387 < a0_2 then (stickfullaw26_EllipsisFits.j1 kj13 t387 t388 t389 t398 true l0_0 l0_1 a0_2 a0_3 a0_4 a0_5 a1_0 a1_1) else (stickfullaw26_EllipsisFits.j1 kj13 t387 t388 t389 t398 (decide (t387 > a0_3)) l0_0 l0_1 a0_2 a0_3 a0_4 a0_5 a1_0 a1_1))) else (stickfullaw26_EllipsisFits.j1 kj13 t387 t388 t389 t398 true l0_0 l0_1 a0_2 a0_3 a0_4 a0_5 a1_0 a1_1)) else (stickfullaw26_EllipsisFits.j1 kj13 t387 t388 t389 t398 true l0_0 l0_1 a0_2 a0_3 a0_4 a0_5 a1_0 a1_1)) = some r := H
         have A39 := Aside0.mk A390
         clear A390
         have HC40 := Aside0.mk H
         clear H
         have hnb41 := NB383_384.out
         have hnc41 := NB384_383.out
         obtain ⟨hcz42_0, hcz42_1, hcz42_2, hcz42_3, hcz42_4, hcz42_5⟩ := cz6 BK383
         obtain ⟨hfz42_0, hfz42_1, hfz42_2, hfz42_3, hfz42_4, hfz42_5⟩ := fz6 BK383
         have q43 : (a0_3 : Int) ≤ ((l0_0.length : Int) : Int) := of_decide_eq_true (by first | (with_reducible assumption) | assumption)
         obtain ⟨i043, hi043, _, hsz43, _⟩ := info_parts info53
         have hroom43 : l0_0.length ≤ c0_0 := HC0_0.out
         have hC43 : Kd.C k53 _ A0_0 l0_0.length l0_0 := HR0_0.out
         have ql43 : (a0_2 : Int) ≤ (a0_3 : Int) := of_decide_eq_true (by first | (with_reducible assumption) | assumption)
         have q043 : (0 : Int) ≤ (a0_2 : Int) := of_decide_eq_true (by first | (with_reducible assumption) | assumption)
         have hcut43 := cut_mid (P := Try.prog) 22 53 .i64 .i64 Try.underlying22 hi043 6 hsz43 A0_0 l0_0.length c0_0 a0_2 a0_3 q043 ql43 q43 hroom43
         have hr43 := Kd.C_mid (lo := (a0_2 : Int).toNat) (hi := (a0_3 : Int).toNat) (c := c0_0) hC43 (by omega) (by omega) hroom43
         obtain ⟨A43, hA43⟩ : ∃ A1, A1 = (if c0_0 = (a0_2 : Int).toNat then A0_0 else (A0_0 : Option Addr).map (·.add ((a0_2 : Int).toNat * 6))) := ⟨_, rfl⟩
         obtain ⟨c43, hc43⟩ : ∃ c1, c1 = c0_0 - (a0_2 : Int).toNat := ⟨_, rfl⟩
         have hy43 : y392.length = (a0_3 : Int).toNat - (a0_2 : Int).toNat := (by rw [Ny392.out, List.length_drop, List.length_take] <;> omega)
         rw [show ((l0_0).take (a0_3 : Int).toNat).drop (a0_2 : Int).toNat = y392 from Ny392.out.symm] at hr43
         replace hr43 : Kd.C k53 _ A43 y392.length y392 := (by rw [hA43]; exact hr43)
         rw [← hy43, ← hA43, ← hc43] at hcut43
         have HR395 := Aside0.mk hr43
         have HC395 := Aside0.mk (show y392.length ≤ c43 from by rw [hy43, hc43]; exact Nat.sub_le_sub_right (Nat.le_trans (by omega) hroom43) _)
         clear hr43 hC43 hroom43 hi043 hsz43 hc43
         have KY43 := Aside0.mk hy43
         have KA43 := Aside0.mk hA43
         clear hy43 hA43
         replace q43 := eq_true q43
         obtain ⟨hcz44_0, hcz44_1⟩ := cz2 BK384
         obtain ⟨hfz44_0, hfz44_1⟩ := fz2 BK384
         go_upto_region 11 with (first | ((with_reducible refine gate_callee (f := 20) rfl ?_); refine goesB (some 91) rfl rfl Try.func20 #[.slice A43 y392.length c43, .int .i64 a1_1] rfl ?_; (with_reducible refine (trim_Fits.calls _ _ y392 a1_1 t396 t397 _ ?side1 ?side2 A38.out).mono ?_); (case side1 => repeat (first | exact (Kd.C_below HR395.out HB.out) | (with_reducible refine Kd.C_alloc ?_ _) | (with_reducible refine Kd.C_drewN ?_ _) | (with_reducible refine Kd.C_drew ?_))); (case side2 => exact HC395.out); rintro e w45 ⟨rfl, hb⟩; refine ⟨_, rfl, ?_⟩; replace BK383 := bb BK383 hb; replace BK384 := bb BK384 hb; replace HB := bh HB hb; (try clear hb); (try clear hb2); (try clear hk); (try clear hi); obtain ⟨hcz46_0, hcz46_1⟩ := cz2 BK384; obtain ⟨hfz46_0, hfz46_1⟩ := fz2 BK384) | ((with_reducible refine gate_callee (f := 21) rfl ?_); refine goesB (some 98) rfl rfl Try.func21 #[.slice A43 y392.length c43, .int .i64 a1_1] rfl ?_; (with_reducible refine (trim_Goes.calls _ _ y392 a1_1 t398 t399 _ ?side1 ?side2 A39.out).mono ?_); (case side1 => repeat (first | exact (Kd.C_below HR395.out HB.out) | (with_reducible refine Kd.C_alloc ?_ _) | (with_reducible refine Kd.C_drewN ?_ _) | (with_reducible refine Kd.C_drew ?_))); (case side2 => exact HC395.out); rintro e w47 ⟨rfl, hb⟩; refine ⟨_, rfl, ?_⟩; replace BK383 := bb BK383 hb; replace BK384 := bb BK384 hb; replace HB := bh HB hb; (try clear hb); (try clear hb2); (try clear hk); (try clear hi)))
         (try simp only [Act.put, List.setIfInBounds_toArray, List.set_cons_zero, List.set_cons_succ])
         go_cut [128] (fun v128 wc => ∃ (kq : Nat) (x128_39 : Bool), v128 = .bool x128_39 ∧ Aside0 (stickfullaw26_EllipsisFits.j1 kq t387 t388 t389 t398 x128_39 l0_0 l0_1 a0_2 a0_3 a0_4 a0_5 a1_0 a1_1 = some r) ∧ Aside0 (kq ≤ kj13) ∧ Aside0 (wc.heap[gb383]? = some (.cells #[(.slice A0_0 l0_0.length c0_0), (.slice A0_1 l0_1.length c0_1), .int .i64 a0_2, .int .i64 a0_3, .bool a0_4, .int .i64 a0_5] 27 (0, 0))) ∧ Aside0 (wc.heap[gb384]? = some (.cells #[.int .i64 a1_0, .int .i64 a1_1] 29 (0, 0))) ∧ Aside0 (Below w.heap.size w wc))
         case first =>
          have H := HC40.out
          clear HC40
          by_cases c48 : t397 = 0
          ·rw [if_pos c48] at H
           have c48b0 : (t397 == 0) = true := beq_iff_eq.mpr c48
           have c48b1 : (t397 != 0) = false := bne_eq_false_iff_eq.mpr c48
           clear c48
           (first | rw [c48b0] | (simp only [i64_w, i32_w]; rw [c48b0]) | skip)
           by_cases c49 : t399 = 0
           ·rw [if_pos c49] at H
            have c49b0 : (t399 == 0) = true := beq_iff_eq.mpr c49
            have c49b1 : (t399 != 0) = false := bne_eq_false_iff_eq.mpr c49
            clear c49
            by_cases c50 : (t389 != (decide (t396 > a1_0))) = true
            ·rw [if_pos c50] at H
             have c50b0 : (t389 != (decide (t396 > a1_0))) = true := c50
             (try (have c50b1 : decide (t389 = (decide (t396 > a1_0))) = false := by simpa using c50))
             (try (have c50b2 : (t389 == (decide (t396 > a1_0))) = false := by simpa using c50))
             (try (have c50b3 : ¬ (t389 = (decide (t396 > a1_0))) := by simpa using c50))
             clear c50
             have H' := Aside0.mk H
             clear H
             have hnb51 := NB384_383.out
             have hnc51 := NB383_384.out
             obtain ⟨hcz52_0, hcz52_1⟩ := cz2 BK384
             obtain ⟨hfz52_0, hfz52_1⟩ := fz2 BK384
             go_wp2
             go_meet
             case rel => exact ⟨_, (true), (by first | rfl | (simp; done) | (simp [*]; done)), H', ⟨by have := HJ13.out; first | omega | exact Nat.le_refl _⟩, ⟨by (with_reducible repeat (first | refine blk_drewN ?_ _ | refine blk_drew ?_ | refine blk_alloc ?_ _)); exact BK383.out⟩, ⟨by (with_reducible repeat (first | refine blk_drewN ?_ _ | refine blk_drew ?_ | refine blk_alloc ?_ _)); exact BK384.out⟩, ⟨by repeat (first | (with_reducible first | exact HB.out | apply below_alloc | apply pw_below_drewN | apply below_drew1 | refine below_set ?_ GE383.out | refine below_set ?_ GE384.out) | exact HB.out)⟩⟩
            ·rw [if_neg c50] at H
             have c50b0 : (t389 != (decide (t396 > a1_0))) = false := by simpa using c50
             (try (have c50b1 : decide (t389 = (decide (t396 > a1_0))) = true := by simpa using c50))
             (try (have c50b2 : (t389 == (decide (t396 > a1_0))) = true := by simpa using c50))
             clear c50
             by_cases c53 : t387 < a0_2
             ·rw [if_pos c53] at H
              have c53b0 : decide (t387 < a0_2) = true := decide_eq_true c53
              clear c53
              have H' := Aside0.mk H
              clear H
              have hnb54 := NB384_383.out
              have hnc54 := NB383_384.out
              obtain ⟨hcz55_0, hcz55_1⟩ := cz2 BK384
              obtain ⟨hfz55_0, hfz55_1⟩ := fz2 BK384
              obtain ⟨hcz56_0, hcz56_1, hcz56_2, hcz56_3, hcz56_4, hcz56_5⟩ := cz6 BK383
              obtain ⟨hfz56_0, hfz56_1, hfz56_2, hfz56_3, hfz56_4, hfz56_5⟩ := fz6 BK383
              go_wp2
              go_meet
              case rel => exact ⟨_, (true), (by first | rfl | (simp; done) | (simp [*]; done)), H', ⟨by have := HJ13.out; first | omega | exact Nat.le_refl _⟩, ⟨by (with_reducible repeat (first | refine blk_drewN ?_ _ | refine blk_drew ?_ | refine blk_alloc ?_ _)); exact BK383.out⟩, ⟨by (with_reducible repeat (first | refine blk_drewN ?_ _ | refine blk_drew ?_ | refine blk_alloc ?_ _)); exact BK384.out⟩, ⟨by repeat (first | (with_reducible first | exact HB.out | apply below_alloc | apply pw_below_drewN | apply below_drew1 | refine below_set ?_ GE383.out | refine below_set ?_ GE384.out) | exact HB.out)⟩⟩
             ·rw [if_neg c53] at H
              have c53b0 : decide (t387 < a0_2) = false := decide_eq_false c53
              clear c53
              have H' := Aside0.mk H
              clear H
              have hnb57 := NB384_383.out
              have hnc57 := NB383_384.out
              obtain ⟨hcz58_0, hcz58_1⟩ := cz2 BK384
              obtain ⟨hfz58_0, hfz58_1⟩ := fz2 BK384
              obtain ⟨hcz59_0, hcz59_1, hcz59_2, hcz59_3, hcz59_4, hcz59_5⟩ := cz6 BK383
              obtain ⟨hfz59_0, hfz59_1, hfz59_2, hfz59_3, hfz59_4, hfz59_5⟩ := fz6 BK383
              go_wp2
              go_meet
              case rel => exact ⟨_, (decide (t387 > a0_3)), (by first | rfl | (simp; done) | (simp [*]; done)), H', ⟨by have := HJ13.out; first | omega | exact Nat.le_refl _⟩, ⟨by (with_reducible repeat (first | refine blk_drewN ?_ _ | refine blk_drew ?_ | refine blk_alloc ?_ _)); exact BK383.out⟩, ⟨by (with_reducible repeat (first | refine blk_drewN ?_ _ | refine blk_drew ?_ | refine blk_alloc ?_ _)); exact BK384.out⟩, ⟨by repeat (first | (with_reducible first | exact HB.out | apply below_alloc | apply pw_below_drewN | apply below_drew1 | refine below_set ?_ GE383.out | refine below_set ?_ GE384.out) | exact HB.out)⟩⟩
           ·rw [if_neg c49] at H
            have c49b0 : (t399 == 0) = false := beq_eq_false_iff_ne.mpr c49
            have c49b1 : (t399 != 0) = true := bne_iff_ne.mpr c49
            have H' := Aside0.mk H
            clear H
            go_wp2
            go_meet
            case rel => exact ⟨_, (true), (by first | rfl | (simp; done) | (simp [*]; done)), H', ⟨by have := HJ13.out; first | omega | exact Nat.le_refl _⟩, ⟨by (with_reducible repeat (first | refine blk_drewN ?_ _ | refine blk_drew ?_ | refine blk_alloc ?_ _)); exact BK383.out⟩, ⟨by (with_reducible repeat (first | refine blk_drewN ?_ _ | refine blk_drew ?_ | refine blk_alloc ?_ _)); exact BK384.out⟩, ⟨by repeat (first | (with_reducible first | exact HB.out | apply below_alloc | apply pw_below_drewN | apply below_drew1 | refine below_set ?_ GE383.out | refine below_set ?_ GE384.out) | exact HB.out)⟩⟩
          ·rw [if_neg c48] at H
           have c48b0 : (t397 == 0) = false := beq_eq_false_iff_ne.mpr c48
           have c48b1 : (t397 != 0) = true := bne_iff_ne.mpr c48
           (first | rw [c48b0] | (simp only [i64_w, i32_w]; rw [c48b0]) | skip)
           have H' := Aside0.mk H
           clear H
           go_wp2
           go_meet
           case rel => exact ⟨_, (true), (by first | rfl | (simp; done) | (simp [*]; done)), H', ⟨by have := HJ13.out; first | omega | exact Nat.le_refl _⟩, ⟨by (with_reducible repeat (first | refine blk_drewN ?_ _ | refine blk_drew ?_ | refine blk_alloc ?_ _)); exact BK383.out⟩, ⟨by (with_reducible repeat (first | refine blk_drewN ?_ _ | refine blk_drew ?_ | refine blk_alloc ?_ _)); exact BK384.out⟩, ⟨by repeat (first | (with_reducible first | exact HB.out | apply below_alloc | apply pw_below_drewN | apply below_drew1 | refine below_set ?_ GE383.out | refine below_set ?_ GE384.out) | exact HB.out)⟩⟩
         case rest =>
          clear HC40
          try clear c1
          try clear c2
          try clear p2
          try clear c3
          try clear c4
          try clear q4
          try clear c5
          try clear c7
          try clear c8
          try clear c9
          try clear c10
          try clear c13
          try clear c13b0
          try clear c13b1
          try clear c17
          try clear c20
          try clear c21
          try clear c23
          try clear c23b0
          try clear c24
          try clear c26
          try clear c26b0
          try clear c27
          try clear c29
          try clear c29b0
          try clear c30
          try clear c32
          try clear c34
          try clear c35
          try clear c35b0
          try clear c35b1
          try clear c36
          try clear c36b0
          try clear c36b1
          try clear c37
          try clear c37b0
          try clear c37b1
          try clear c41
          try clear c43
          try clear q43
          try clear c48
          try clear c48b0
          try clear c48b1
          try clear c49
          try clear c49b0
          try clear c49b1
          try clear c50
          try clear c50b0
          try clear c50b1
          try clear c50b2
          try clear c51
          try clear c53
          try clear c53b0
          try clear c54
          try clear c57
          try clear hcz18_0
          try clear hcz18_1
          try clear hcz18_2
          try clear hcz18_3
          try clear hcz18_4
          try clear hcz18_5
          try clear hcz20_0
          try clear hcz20_1
          try clear hcz20_2
          try clear hcz20_3
          try clear hcz20_4
          try clear hcz20_5
          try clear hcz21_0
          try clear hcz21_1
          try clear hcz25_0
          try clear hcz25_1
          try clear hcz25_2
          try clear hcz25_3
          try clear hcz25_4
          try clear hcz25_5
          try clear hcz28_0
          try clear hcz28_1
          try clear hcz28_2
          try clear hcz28_3
          try clear hcz28_4
          try clear hcz28_5
          try clear hcz31_0
          try clear hcz31_1
          try clear hcz31_2
          try clear hcz31_3
          try clear hcz31_4
          try clear hcz31_5
          try clear hcz33_0
          try clear hcz33_1
          try clear hcz33_2
          try clear hcz33_3
          try clear hcz33_4
          try clear hcz33_5
          try clear hcz42_0
          try clear hcz42_1
          try clear hcz42_2
          try clear hcz42_3
          try clear hcz42_4
          try clear hcz42_5
          try clear hcz44_0
          try clear hcz44_1
          try clear hcz46_0
          try clear hcz46_1
          try clear hcz52_0
          try clear hcz52_1
          try clear hcz55_0
          try clear hcz55_1
          try clear hcz56_0
          try clear hcz56_1
          try clear hcz56_2
          try clear hcz56_3
          try clear hcz56_4
          try clear hcz56_5
          try clear hcz58_0
          try clear hcz58_1
          try clear hcz59_0
          try clear hcz59_1
          try clear hcz59_2
          try clear hcz59_3
          try clear hcz59_4
          try clear hcz59_5
          try clear hcz9_0
          try clear hcz9_1
          try clear hcz9_2
          try clear hcz9_3
          try clear hcz9_4
          try clear hcz9_5
          try clear hfz18_0
          try clear hfz18_1
          try clear hfz18_2
          try clear hfz18_3
          try clear hfz18_4
          try clear hfz18_5
          try clear hfz20_0
          try clear hfz20_1
          try clear hfz20_2
          try clear hfz20_3
          try clear hfz20_4
          try clear hfz20_5
          try clear hfz21_0
          try clear hfz21_1
          try clear hfz25_0
          try clear hfz25_1
          try clear hfz25_2
          try clear hfz25_3
          try clear hfz25_4
          try clear hfz25_5
          try clear hfz28_0
          try clear hfz28_1
          try clear hfz28_2
          try clear hfz28_3
          try clear hfz28_4
          try clear hfz28_5
          try clear hfz31_0
          try clear hfz31_1
          try clear hfz31_2
          try clear hfz31_3
          try clear hfz31_4
          try clear hfz31_5
          try clear hfz33_0
          try clear hfz33_1
          try clear hfz33_2
          try clear hfz33_3
          try clear hfz33_4
          try clear hfz33_5
          try clear hfz42_0
          try clear hfz42_1
          try clear hfz42_2
          try clear hfz42_3
          try clear hfz42_4
          try clear hfz42_5
          try clear hfz44_0
          try clear hfz44_1
          try clear hfz46_0
          try clear hfz46_1
          try clear hfz52_0
          try clear hfz52_1
          try clear hfz55_0
          try clear hfz55_1
          try clear hfz56_0
          try clear hfz56_1
          try clear hfz56_2
          try clear hfz56_3
          try clear hfz56_4
          try clear hfz56_5
          try clear hfz58_0
          try clear hfz58_1
          try clear hfz59_0
          try clear hfz59_1
          try clear hfz59_2
          try clear hfz59_3
          try clear hfz59_4
          try clear hfz59_5
          try clear hfz9_0
          try clear hfz9_1
          try clear hfz9_2
          try clear hfz9_3
          try clear hfz9_4
          try clear hfz9_5
          try clear p2
          try clear q043
          try clear q43
          obtain ⟨kq, x128_39, rfl, HA, HJ39, BK383, BK384, HB⟩ := hcut
          cases kq with
          | zero => exact absurd HA.out (by simp [stickfullaw26_EllipsisFits.j1])
          | succ kj39 =>
           have H := HA.out
           clear HA
           simp only [stickfullaw26_EllipsisFits.j1] at H
           by_cases c60 : x128_39 = true
           ·subst c60
            have H1 : (some false) = some r := by rw [if_pos rfl] at H; exact H
            clear H
            have H := H1
            clear H1
            exact absurd ((Option.some.inj H).trans HR_.out) (by decide)
           ·replace c60 := Bool.eq_false_iff.mpr c60
            subst c60
            have H1 : (if t389 = true then (if t387 = a0_2 then (if t388 = a1_1 then ((stickfullaw26_head.f kj39).bind fun t400 => (some t400)) else (if (wrap64 (t388 + a0_5)) ≤ a1_0 then (if t387 = a0_3 then ((stickfullaw26_head.f kj39).bind fun t401 => (some t401)) else (if 0 ≤ t387 then (if t387 < (l0_1.length : Int) then (if rdOf false l0_1 t387 = true then ((stickfullaw26_head.f kj39).bind fun t403 => (some t403)) else (some false)) else (none)) else (none))) else (some false))) else (if (wrap64 (t388 + a0_5)) ≤ a1_0 then (if t387 = a0_3 then ((stickfullaw26_head.f kj39).bind fun t404 => (some t404)) else (if 0 ≤ t387 then (if t387 < (l0_1.length : Int) then (if rdOf false l0_1 t387 = true then ((stickfullaw26_head.f kj39).bind fun t406 => (some t406)) else (some false)) else (none)) else (none))) else (some false))) else (if t387 = a0_3 then (if t388 = t398 then ((stickfullaw26_head.f kj39).bind fun t407 => (some t407)) else (some false)) else (some false))) = some r := by rw [if_neg (show ¬ (false = true) by decide)] at H; exact H
            clear H
            have H := H1
            clear H1
            by_cases c61 : t389 = true
            ·subst c61
             have H1 : (if t387 = a0_2 then (if t388 = a1_1 then ((stickfullaw26_head.f kj39).bind fun t400 => (some t400)) else (if (wrap64 (t388 + a0_5)) ≤ a1_0 then (if t387 = a0_3 then ((stickfullaw26_head.f kj39).bind fun t401 => (some t401)) else (if 0 ≤ t387 then (if t387 < (l0_1.length : Int) then (if rdOf false l0_1 t387 = true then ((stickfullaw26_head.f kj39).bind fun t403 => (some t403)) else (some false)) else (none)) else (none))) else (some false))) else (if (wrap64 (t388 + a0_5)) ≤ a1_0 then (if t387 = a0_3 then ((stickfullaw26_head.f kj39).bind fun t404 => (some t404)) else (if 0 ≤ t387 then (if t387 < (l0_1.length : Int) then (if rdOf false l0_1 t387 = true then ((stickfullaw26_head.f kj39).bind fun t406 => (some t406)) else (some false)) else (none)) else (none))) else (some false))) = some r := by rw [if_pos rfl] at H; exact H
             clear H
             have H := H1
             clear H1
             by_cases c62 : t387 = a0_2
             ·rw [if_pos c62] at H
              have c62b0 : (t387 == a0_2) = true := beq_iff_eq.mpr c62
              have c62b1 : (t387 != a0_2) = false := bne_eq_false_iff_eq.mpr c62
              clear c62
              by_cases c63 : t388 = a1_1
              ·rw [if_pos c63] at H
               have c63b0 : (t388 == a1_1) = true := beq_iff_eq.mpr c63
               have c63b1 : (t388 != a1_1) = false := bne_eq_false_iff_eq.mpr c63
               clear c63
               replace H := Option.bind_eq_some_iff.mp H
               obtain ⟨t400, A640, H⟩ := H
               replace H : (some t400) = some r := H
               have A64 := Aside0.mk A640
               clear A640
               obtain rfl := Option.some.inj H
               have hnb65 := NB383_384.out
               have hnc65 := NB384_383.out
               obtain ⟨hcz66_0, hcz66_1, hcz66_2, hcz66_3, hcz66_4, hcz66_5⟩ := cz6 BK383
               obtain ⟨hfz66_0, hfz66_1, hfz66_2, hfz66_3, hfz66_4, hfz66_5⟩ := fz6 BK383
               obtain ⟨hcz67_0, hcz67_1⟩ := cz2 BK384
               obtain ⟨hfz67_0, hfz67_1⟩ := fz2 BK384
               go_wp2_with (first | (go_at_call 9; (with_reducible refine (stickfullaw26_head.calls kj39  t400 _ A64.out).mono ?_); rintro e w68 ⟨rfl, hb⟩; replace BK383 := bb BK383 hb; replace BK384 := bb BK384 hb; replace HB := bh HB hb; (try clear hb); (try clear hb2); (try clear hk); (try clear hi)))
               go_ret
               exact ⟨by first | rfl | (simp [errW_none, errW_some] <;> rfl) | (simp [*, errW_none, errW_some] <;> rfl), by repeat (first | (with_reducible first | exact HB.out | apply below_alloc | apply pw_below_drewN | apply below_drew1 | refine below_set ?_ GE383.out | refine below_set ?_ GE384.out) | exact HB.out)⟩
              ·rw [if_neg c63] at H
               have c63b0 : (t388 == a1_1) = false := beq_eq_false_iff_ne.mpr c63
               have c63b1 : (t388 != a1_1) = true := bne_iff_ne.mpr c63
               by_cases c69 : (wrap64 (t388 + a0_5)) ≤ a1_0
               ·rw [if_pos c69] at H
                have c69b0 : decide ((wrap64 (t388 + a0_5)) ≤ a1_0) = true := decide_eq_true c69
                clear c69
                by_cases c70 : t387 = a0_3
                ·rw [if_pos c70] at H
                 have c70b0 : (t387 == a0_3) = true := beq_iff_eq.mpr c70
                 have c70b1 : (t387 != a0_3) = false := bne_eq_false_iff_eq.mpr c70
                 clear c70
                 replace H := Option.bind_eq_some_iff.mp H
                 obtain ⟨t401, A710, H⟩ := H
                 replace H : (some t401) = some r := H
                 have A71 := Aside0.mk A710
                 clear A710
                 obtain rfl := Option.some.inj H
                 have hnb72 := NB383_384.out
                 have hnc72 := NB384_383.out
                 obtain ⟨hcz73_0, hcz73_1, hcz73_2, hcz73_3, hcz73_4, hcz73_5⟩ := cz6 BK383
                 obtain ⟨hfz73_0, hfz73_1, hfz73_2, hfz73_3, hfz73_4, hfz73_5⟩ := fz6 BK383
                 obtain ⟨hcz74_0, hcz74_1⟩ := cz2 BK384
                 obtain ⟨hfz74_0, hfz74_1⟩ := fz2 BK384
                 go_wp2_with (first | (go_at_call 9; (with_reducible refine (stickfullaw26_head.calls kj39  t401 _ A71.out).mono ?_); rintro e w75 ⟨rfl, hb⟩; replace BK383 := bb BK383 hb; replace BK384 := bb BK384 hb; replace HB := bh HB hb; (try clear hb); (try clear hb2); (try clear hk); (try clear hi)))
                 go_ret
                 exact ⟨by first | rfl | (simp [errW_none, errW_some] <;> rfl) | (simp [*, errW_none, errW_some] <;> rfl), by repeat (first | (with_reducible first | exact HB.out | apply below_alloc | apply pw_below_drewN | apply below_drew1 | refine below_set ?_ GE383.out | refine below_set ?_ GE384.out) | exact HB.out)⟩
                ·rw [if_neg c70] at H
                 have c70b0 : (t387 == a0_3) = false := beq_eq_false_iff_ne.mpr c70
                 have c70b1 : (t387 != a0_3) = true := bne_iff_ne.mpr c70
                 by_cases c76 : 0 ≤ t387
                 ·rw [if_pos c76] at H
                  have c76b0 : decide (0 ≤ t387) = true := decide_eq_true c76
                  clear c76
                  by_cases c77 : t387 < (l0_1.length : Int)
                  ·rw [if_pos c77] at H
                   have c77b0 : decide (t387 < (l0_1.length : Int)) = true := decide_eq_true c77
                   clear c77
                   obtain ⟨bq78, hbq78⟩ : ∃ b_ : Bool, b_ = (rdOf false l0_1 t387) := ⟨_, rfl⟩
                   replace H : (if bq78 = true then ((stickfullaw26_head.f kj39).bind fun t403 => (some t403)) else (some false)) = some r := by rw [← hbq78] at H; exact H
                   have Nbq78 := Aside0.mk hbq78
                   clear hbq78
                   by_cases c79 : bq78 = true
                   ·subst c79
                    have H1 : ((stickfullaw26_head.f kj39).bind fun t403 => (some t403)) = some r := by rw [if_pos rfl] at H; exact H
                    clear H
                    have H := H1
                    clear H1
                    replace H := Option.bind_eq_some_iff.mp H
                    obtain ⟨t403, A800, H⟩ := H
                    replace H : (some t403) = some r := H
                    have A80 := Aside0.mk A800
                    clear A800
                    obtain rfl := Option.some.inj H
                    have hnb81 := NB383_384.out
                    have hnc81 := NB384_383.out
                    obtain ⟨hcz82_0, hcz82_1, hcz82_2, hcz82_3, hcz82_4, hcz82_5⟩ := cz6 BK383
                    obtain ⟨hfz82_0, hfz82_1, hfz82_2, hfz82_3, hfz82_4, hfz82_5⟩ := fz6 BK383
                    obtain ⟨hcz83_0, hcz83_1⟩ := cz2 BK384
                    obtain ⟨hfz83_0, hfz83_1⟩ := fz2 BK384
                    have p402 : 0 ≤ (t387 : Int) := of_decide_eq_true (by first | (with_reducible assumption) | assumption)
                    have q402 : t387 < (l0_1.length : Int) := of_decide_eq_true (by first | (with_reducible assumption) | assumption)
                    obtain ⟨ad402, e402, hx402_0⟩ := Kd.at_bool HR0_1.out t387 p402 q402
                    (try rw [← Nbq78.out] at hx402_0)
                    cases e402
                    replace hx402_0 := (HB.out.cell (World.block_lt_of_cell? w _ hx402_0)).trans hx402_0
                    replace p402 := eq_true p402
                    replace q402 := eq_true q402
                    go_wp2_with (first | (go_at_call 9; (with_reducible refine (stickfullaw26_head.calls kj39  t403 _ A80.out).mono ?_); rintro e w84 ⟨rfl, hb⟩; replace BK383 := bb BK383 hb; replace BK384 := bb BK384 hb; replace HB := bh HB hb; (try clear hb); (try clear hb2); (try clear hk); (try clear hi)))
                    go_ret
                    exact ⟨by first | rfl | (simp [errW_none, errW_some] <;> rfl) | (simp [*, errW_none, errW_some] <;> rfl), by repeat (first | (with_reducible first | exact HB.out | apply below_alloc | apply pw_below_drewN | apply below_drew1 | refine below_set ?_ GE383.out | refine below_set ?_ GE384.out) | exact HB.out)⟩
                   ·replace c79 := Bool.eq_false_iff.mpr c79
                    subst c79
                    have H1 : (some false) = some r := by rw [if_neg (show ¬ (false = true) by decide)] at H; exact H
                    clear H
                    have H := H1
                    clear H1
                    exact absurd ((Option.some.inj H).trans HR_.out) (by decide)
                  ·rw [if_neg c77] at H
                   exact absurd H (by simp)
                 ·rw [if_neg c76] at H
                  exact absurd H (by simp)
               ·rw [if_neg c69] at H
                have c69b0 : decide ((wrap64 (t388 + a0_5)) ≤ a1_0) = false := decide_eq_false c69
                clear c69
                exact absurd ((Option.some.inj H).trans HR_.out) (by decide)
             ·rw [if_neg c62] at H
              have c62b0 : (t387 == a0_2) = false := beq_eq_false_iff_ne.mpr c62
              have c62b1 : (t387 != a0_2) = true := bne_iff_ne.mpr c62
              by_cases c85 : (wrap64 (t388 + a0_5)) ≤ a1_0
              ·rw [if_pos c85] at H
               have c85b0 : decide ((wrap64 (t388 + a0_5)) ≤ a1_0) = true := decide_eq_true c85
               clear c85
               by_cases c86 : t387 = a0_3
               ·rw [if_pos c86] at H
                have c86b0 : (t387 == a0_3) = true := beq_iff_eq.mpr c86
                have c86b1 : (t387 != a0_3) = false := bne_eq_false_iff_eq.mpr c86
                clear c86
                replace H := Option.bind_eq_some_iff.mp H
                obtain ⟨t404, A870, H⟩ := H
                replace H : (some t404) = some r := H
                have A87 := Aside0.mk A870
                clear A870
                obtain rfl := Option.some.inj H
                have hnb88 := NB383_384.out
                have hnc88 := NB384_383.out
                obtain ⟨hcz89_0, hcz89_1, hcz89_2, hcz89_3, hcz89_4, hcz89_5⟩ := cz6 BK383
                obtain ⟨hfz89_0, hfz89_1, hfz89_2, hfz89_3, hfz89_4, hfz89_5⟩ := fz6 BK383
                obtain ⟨hcz90_0, hcz90_1⟩ := cz2 BK384
                obtain ⟨hfz90_0, hfz90_1⟩ := fz2 BK384
                go_wp2_with (first | (go_at_call 9; (with_reducible refine (stickfullaw26_head.calls kj39  t404 _ A87.out).mono ?_); rintro e w91 ⟨rfl, hb⟩; replace BK383 := bb BK383 hb; replace BK384 := bb BK384 hb; replace HB := bh HB hb; (try clear hb); (try clear hb2); (try clear hk); (try clear hi)))
                go_ret
                exact ⟨by first | rfl | (simp [errW_none, errW_some] <;> rfl) | (simp [*, errW_none, errW_some] <;> rfl), by repeat (first | (with_reducible first | exact HB.out | apply below_alloc | apply pw_below_drewN | apply below_drew1 | refine below_set ?_ GE383.out | refine below_set ?_ GE384.out) | exact HB.out)⟩
               ·rw [if_neg c86] at H
                have c86b0 : (t387 == a0_3) = false := beq_eq_false_iff_ne.mpr c86
                have c86b1 : (t387 != a0_3) = true := bne_iff_ne.mpr c86
                by_cases c92 : 0 ≤ t387
                ·rw [if_pos c92] at H
                 have c92b0 : decide (0 ≤ t387) = true := decide_eq_true c92
                 clear c92
                 by_cases c93 : t387 < (l0_1.length : Int)
                 ·rw [if_pos c93] at H
                  have c93b0 : decide (t387 < (l0_1.length : Int)) = true := decide_eq_true c93
                  clear c93
                  obtain ⟨bq94, hbq94⟩ : ∃ b_ : Bool, b_ = (rdOf false l0_1 t387) := ⟨_, rfl⟩
                  replace H : (if bq94 = true then ((stickfullaw26_head.f kj39).bind fun t406 => (some t406)) else (some false)) = some r := by rw [← hbq94] at H; exact H
                  have Nbq94 := Aside0.mk hbq94
                  clear hbq94
                  by_cases c95 : bq94 = true
                  ·subst c95
                   have H1 : ((stickfullaw26_head.f kj39).bind fun t406 => (some t406)) = some r := by rw [if_pos rfl] at H; exact H
                   clear H
                   have H := H1
                   clear H1
                   replace H := Option.bind_eq_some_iff.mp H
                   obtain ⟨t406, A960, H⟩ := H
                   replace H : (some t406) = some r := H
                   have A96 := Aside0.mk A960
                   clear A960
                   obtain rfl := Option.some.inj H
                   have hnb97 := NB383_384.out
                   have hnc97 := NB384_383.out
                   obtain ⟨hcz98_0, hcz98_1, hcz98_2, hcz98_3, hcz98_4, hcz98_5⟩ := cz6 BK383
                   obtain ⟨hfz98_0, hfz98_1, hfz98_2, hfz98_3, hfz98_4, hfz98_5⟩ := fz6 BK383
                   obtain ⟨hcz99_0, hcz99_1⟩ := cz2 BK384
                   obtain ⟨hfz99_0, hfz99_1⟩ := fz2 BK384
                   have p405 : 0 ≤ (t387 : Int) := of_decide_eq_true (by first | (with_reducible assumption) | assumption)
                   have q405 : t387 < (l0_1.length : Int) := of_decide_eq_true (by first | (with_reducible assumption) | assumption)
                   obtain ⟨ad405, e405, hx405_0⟩ := Kd.at_bool HR0_1.out t387 p405 q405
                   (try rw [← Nbq94.out] at hx405_0)
                   cases e405
                   replace hx405_0 := (HB.out.cell (World.block_lt_of_cell? w _ hx405_0)).trans hx405_0
                   replace p405 := eq_true p405
                   replace q405 := eq_true q405
                   go_wp2_with (first | (go_at_call 9; (with_reducible refine (stickfullaw26_head.calls kj39  t406 _ A96.out).mono ?_); rintro e w100 ⟨rfl, hb⟩; replace BK383 := bb BK383 hb; replace BK384 := bb BK384 hb; replace HB := bh HB hb; (try clear hb); (try clear hb2); (try clear hk); (try clear hi)))
                   go_ret
                   exact ⟨by first | rfl | (simp [errW_none, errW_some] <;> rfl) | (simp [*, errW_none, errW_some] <;> rfl), by repeat (first | (with_reducible first | exact HB.out | apply below_alloc | apply pw_below_drewN | apply below_drew1 | refine below_set ?_ GE383.out | refine below_set ?_ GE384.out) | exact HB.out)⟩
                  ·replace c95 := Bool.eq_false_iff.mpr c95
                   subst c95
                   have H1 : (some false) = some r := by rw [if_neg (show ¬ (false = true) by decide)] at H; exact H
                   clear H
                   have H := H1
                   clear H1
                   exact absurd ((Option.some.inj H).trans HR_.out) (by decide)
                 ·rw [if_neg c93] at H
                  exact absurd H (by simp)
                ·rw [if_neg c92] at H
                 exact absurd H (by simp)
              ·rw [if_neg c85] at H
               have c85b0 : decide ((wrap64 (t388 + a0_5)) ≤ a1_0) = false := decide_eq_false c85
               clear c85
               exact absurd ((Option.some.inj H).trans HR_.out) (by decide)
            ·replace c61 := Bool.eq_false_iff.mpr c61
             subst c61
             have H1 : (if t387 = a0_3 then (if t388 = t398 then ((stickfullaw26_head.f kj39).bind fun t407 => (some t407)) else (some false)) else (some false)) = some r := by rw [if_neg (show ¬ (false = true) by decide)] at H; exact H
             clear H
             have H := H1
             clear H1
             by_cases c101 : t387 = a0_3
             ·rw [if_pos c101] at H
              have c101b0 : (t387 == a0_3) = true := beq_iff_eq.mpr c101
              have c101b1 : (t387 != a0_3) = false := bne_eq_false_iff_eq.mpr c101
              clear c101
              by_cases c102 : t388 = t398
              ·rw [if_pos c102] at H
               have c102b0 : (t388 == t398) = true := beq_iff_eq.mpr c102
               have c102b1 : (t388 != t398) = false := bne_eq_false_iff_eq.mpr c102
               clear c102
               replace H := Option.bind_eq_some_iff.mp H
               obtain ⟨t407, A1030, H⟩ := H
               replace H : (some t407) = some r := H
               have A103 := Aside0.mk A1030
               clear A1030
               obtain rfl := Option.some.inj H
               have hnb104 := NB383_384.out
               have hnc104 := NB384_383.out
               obtain ⟨hcz105_0, hcz105_1, hcz105_2, hcz105_3, hcz105_4, hcz105_5⟩ := cz6 BK383
               obtain ⟨hfz105_0, hfz105_1, hfz105_2, hfz105_3, hfz105_4, hfz105_5⟩ := fz6 BK383
               go_wp2_with (first | (go_at_call 9; (with_reducible refine (stickfullaw26_head.calls kj39  t407 _ A103.out).mono ?_); rintro e w106 ⟨rfl, hb⟩; replace BK383 := bb BK383 hb; replace BK384 := bb BK384 hb; replace HB := bh HB hb; (try clear hb); (try clear hb2); (try clear hk); (try clear hi)))
               go_ret
               exact ⟨by first | rfl | (simp [errW_none, errW_some] <;> rfl) | (simp [*, errW_none, errW_some] <;> rfl), by repeat (first | (with_reducible first | exact HB.out | apply below_alloc | apply pw_below_drewN | apply below_drew1 | refine below_set ?_ GE383.out | refine below_set ?_ GE384.out) | exact HB.out)⟩
              ·rw [if_neg c102] at H
               have c102b0 : (t388 == t398) = false := beq_eq_false_iff_ne.mpr c102
               have c102b1 : (t388 != t398) = true := bne_iff_ne.mpr c102
               exact absurd ((Option.some.inj H).trans HR_.out) (by decide)
             ·rw [if_neg c101] at H
              have c101b0 : (t387 == a0_3) = false := beq_eq_false_iff_ne.mpr c101
              have c101b1 : (t387 != a0_3) = true := bne_iff_ne.mpr c101
              exact absurd ((Option.some.inj H).trans HR_.out) (by decide)
        ·rw [if_neg c37] at H
         exact absurd H (by simp)
       ·rw [if_neg c36] at H
        exact absurd H (by simp)
      ·rw [if_neg c35] at H
       exact absurd H (by simp)
  ·rw [if_neg c13] at H
   have c13b0 : (t390 == 0) = false := beq_eq_false_iff_ne.mpr c13
   have c13b1 : (t390 != 0) = true := bne_iff_ne.mpr c13
   by_cases c107 : t387 = 0
   ·rw [if_pos c107] at H
    have c107b0 : (t387 == 0) = true := beq_iff_eq.mpr c107
    have c107b1 : (t387 != 0) = false := bne_eq_false_iff_eq.mpr c107
    clear c107
    by_cases c108 : t388 = 0
    ·rw [if_pos c108] at H
     have c108b0 : (t388 == 0) = true := beq_iff_eq.mpr c108
     have c108b1 : (t388 != 0) = false := bne_eq_false_iff_eq.mpr c108
     clear c108
     by_cases c109 : t389 = true
     ·subst c109
      have H1 : (some false) = some r := by rw [if_pos rfl] at H; exact H
      clear H
      have H := H1
      clear H1
      exact absurd ((Option.some.inj H).trans HR_.out) (by decide)
     ·replace c109 := Bool.eq_false_iff.mpr c109
      subst c109
      have H1 : ((stickfullaw26_head.f k).bind fun t391 => (some t391)) = some r := by rw [if_neg (show ¬ (false = true) by decide)] at H; exact H
      clear H
      have H := H1
      clear H1
      replace H := Option.bind_eq_some_iff.mp H
      obtain ⟨t391, A1100, H⟩ := H
      replace H : (some t391) = some r := H
      have A110 := Aside0.mk A1100
      clear A1100
      obtain rfl := Option.some.inj H
      go_enter Try.func7, Try.ntmps7
      go_wp2_with (first | ((with_reducible refine gate_dst (N := 2) rfl ?_); (try (refine gate_guard (by rfl) ?_; dsimp only)); refine box_event ?hg (N := 2) ?hd (cs := #[.slice A0_0 l0_0.length c0_0, .slice A0_1 l0_1.length c0_1, .int .i64 a0_2, .int .i64 a0_3, .bool a0_4, .int .i64 a0_5]) (t := 27) ?hr ?_; (case hd => rfl); (case hg => rfl); (case hr => first | (go_simp; done) | (go_simp; rfl)); intro gb383 hg w111 hbox hb; have BK383 := Aside0.mk (hbox); have GW383 := bge HB hg; have GE383 := bge HB hg; replace HB := bh HB hb; clear hb hbox hg) | ((with_reducible refine gate_dst (N := 3) rfl ?_); (try (refine gate_guard (by rfl) ?_; dsimp only)); refine box_event ?hg (N := 3) ?hd (cs := #[.int .i64 a1_0, .int .i64 a1_1]) (t := 29) ?hr ?_; (case hd => rfl); (case hg => rfl); (case hr => first | (go_simp; done) | (go_simp; rfl)); intro gb384 hg w112 hbox hb; have BK384 := Aside0.mk (hbox); have GW384 := bge HB hg; have GE384 := bge HB hg; replace HB := bh HB hb; have NB383_384 := nbl BK383 hg; have NB384_383 := nbg BK383 hg; replace BK383 := bb BK383 hb; clear hb hbox hg; have hnb113 := NB383_384.out; have hnc113 := NB384_383.out; obtain ⟨hcz114_0, hcz114_1, hcz114_2, hcz114_3, hcz114_4, hcz114_5⟩ := cz6 BK383; obtain ⟨hfz114_0, hfz114_1, hfz114_2, hfz114_3, hfz114_4, hfz114_5⟩ := fz6 BK383) | ((with_reducible refine gate_callee (f := 8) rfl ?_); refine goesB (some 15) rfl rfl Try.func8 #[.agg #[.slice A0_0 l0_0.length c0_0, .slice A0_1 l0_1.length c0_1, .int .i64 a0_2, .int .i64 a0_3, .bool a0_4, .int .i64 a0_5]] rfl ?_; (with_reducible refine (stickfullaw26_great.calls _ _ l0_0 _ _ l0_1 a0_2 a0_3 a0_4 a0_5 false _ ?side1 ?side2 ?side3 ?side4 A3.out).mono ?_); (case side1 => repeat (first | exact (Kd.C_below HR0_0.out HB.out) | (with_reducible refine Kd.C_alloc ?_ _) | (with_reducible refine Kd.C_drewN ?_ _) | (with_reducible refine Kd.C_drew ?_))); (case side2 => exact HC0_0.out); (case side3 => repeat (first | exact (Kd.C_below HR0_1.out HB.out) | (with_reducible refine Kd.C_alloc ?_ _) | (with_reducible refine Kd.C_drewN ?_ _) | (with_reducible refine Kd.C_drew ?_))); (case side4 => exact HC0_1.out); rintro e w115 ⟨rfl, hb⟩; refine ⟨_, rfl, ?_⟩; replace BK383 := bb BK383 hb; replace BK384 := bb BK384 hb; replace HB := bh HB hb; (try clear hb); (try clear hb2); (try clear hk); (try clear hi); obtain ⟨hcz116_0, hcz116_1, hcz116_2, hcz116_3, hcz116_4, hcz116_5⟩ := cz6 BK383; obtain ⟨hfz116_0, hfz116_1, hfz116_2, hfz116_3, hfz116_4, hfz116_5⟩ := fz6 BK383; obtain ⟨hcz117_0, hcz117_1⟩ := cz2 BK384; obtain ⟨hfz117_0, hfz117_1⟩ := fz2 BK384) | ((with_reducible refine gate_callee (f := 10) rfl ?_); refine goesB (some 27) rfl rfl Try.func10 #[.slice A0_0 l0_0.length c0_0, .slice A0_1 l0_1.length c0_1, .agg #[.int .i64 a0_2, .int .i64 a0_3, .bool a0_4], .agg #[.int .i64 a1_0, .int .i64 a1_1], .int .i64 a0_5] rfl ?_; (with_reducible refine (ellipsis_Cut.calls _ _ l0_0 _ _ l0_1 a0_2 a0_3 a0_4 a1_0 a1_1 a0_5 t387 t388 false t390 _ ?side1 ?side2 ?side3 ?side4 A12.out).mono ?_); (case side1 => repeat (first | exact (Kd.C_below HR0_0.out HB.out) | (with_reducible refine Kd.C_alloc ?_ _) | (with_reducible refine Kd.C_drewN ?_ _) | (with_reducible refine Kd.C_drew ?_))); (case side2 => exact HC0_0.out); (case side3 => repeat (first | exact (Kd.C_below HR0_1.out HB.out) | (with_reducible refine Kd.C_alloc ?_ _) | (with_reducible refine Kd.C_drewN ?_ _) | (with_reducible refine Kd.C_drew ?_))); (case side4 => exact HC0_1.out); rintro e w118 ⟨rfl, hb⟩; refine ⟨_, rfl, ?_⟩; replace BK383 := bb BK383 hb; replace BK384 := bb BK384 hb; replace HB := bh HB hb; (try clear hb); (try clear hb2); (try clear hk); (try clear hi)) | (go_at_call 9; (with_reducible refine (stickfullaw26_head.calls k  t391 _ A110.out).mono ?_); rintro e w119 ⟨rfl, hb⟩; replace BK383 := bb BK383 hb; replace BK384 := bb BK384 hb; replace HB := bh HB hb; (try clear hb); (try clear hb2); (try clear hk); (try clear hi)))
      go_ret
      exact ⟨by first | rfl | (simp [errW_none, errW_some] <;> rfl) | (simp [*, errW_none, errW_some] <;> rfl), by repeat (first | (with_reducible first | exact HB.out | apply below_alloc | apply pw_below_drewN | apply below_drew1 | refine below_set ?_ GE383.out | refine below_set ?_ GE384.out) | exact HB.out)⟩
    ·rw [if_neg c108] at H
     have c108b0 : (t388 == 0) = false := beq_eq_false_iff_ne.mpr c108
     have c108b1 : (t388 != 0) = true := bne_iff_ne.mpr c108
     exact absurd ((Option.some.inj H).trans HR_.out) (by decide)
   ·rw [if_neg c107] at H
    have c107b0 : (t387 == 0) = false := beq_eq_false_iff_ne.mpr c107
    have c107b1 : (t387 != 0) = true := bne_iff_ne.mpr c107
    exact absurd ((Option.some.inj H).trans HR_.out) (by decide)

end Go.Proofs.Ytkaiibipcnlaiaa.HEll
