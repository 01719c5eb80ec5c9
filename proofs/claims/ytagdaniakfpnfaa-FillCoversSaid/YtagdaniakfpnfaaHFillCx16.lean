-- Written by this claim's own program over the kit's print.
import Derived.Test.YtagdaniakfpnfaaHFillCb
import Derived.Test.YtagdaniakfpnfaaHFillCx0
import Derived.Test.YtagdaniakfpnfaaHFillCx4
import Derived.Test.YtagdaniakfpnfaaHFillCx5
import Derived.Test.YtagdaniakfpnfaaHFillCx14
import Derived.Test.YtagdaniakfpnfaaHFillCx15
namespace Go.Proofs.Ytagdaniakfpnfaa.HFillC
open Go.RowKit Go.Proofs.YtagdaniakfpnfaaW.PrintWords Go.Proofs.YtagdaniakfpnfaaW.PrintLast Go.Proofs.YtagdaniakfpnfaaW.PrintMore Go.Proofs.Ytagdaniakfpnfaa.Hand
attribute [local go_sem] max2_int min2_int max_two min_two max_three min_three max_four min_four   -- for this text's walks alone
set_option linter.unusedVariables false
set_option linter.unusedSimpArgs false

/-- Which operations have been taken: the bits of a number. -/
def stickfullaw14_FillCovers.bits : Nat → Nat → List Bool
 | 0, _ => []
 | n + 1, m => Nat.beq (m % 2) 1 :: stickfullaw14_FillCovers.bits n (m / 2)
def stickfullaw14_FillCovers.bm (n m : Nat) : Array Bool := (stickfullaw14_FillCovers.bits n m).toArray
/-! ### stickfullaw14_FillCovers: function 4 -/
mutual
def stickfullaw14_FillCovers.l0 : Nat → List (S44) → List (S35) → Int → Int → Option (Bool)
 | 0, _, _, _, _ => none
 | k + 1, x0, x7, x9, x10 => if x10 < (x7.length : Int) then (if 0 ≤ x10 then (if ((rd_T35 x7 x10).f0) = x9 then (if ((rd_T35 x7 x10).f1) < ((rd_T35 x7 x10).f0) then (stickfullaw14_FillCovers.j1 k x0 x7 x10 true ((rd_T35 x7 x10).f0) ((rd_T35 x7 x10).f1) ((rd_T35 x7 x10).f2)) else (if ((rd_T35 x7 x10).f1) > (x0.length : Int) then (stickfullaw14_FillCovers.j1 k x0 x7 x10 true ((rd_T35 x7 x10).f0) ((rd_T35 x7 x10).f1) ((rd_T35 x7 x10).f2)) else (if (wrap64 (x10 + 1)) < (x7.length : Int) then (stickfullaw14_FillCovers.j1 k x0 x7 x10 (((rd_T35 x7 x10).f1) == ((rd_T35 x7 x10).f0)) ((rd_T35 x7 x10).f0) ((rd_T35 x7 x10).f1) ((rd_T35 x7 x10).f2)) else (stickfullaw14_FillCovers.j1 k x0 x7 x10 false ((rd_T35 x7 x10).f0) ((rd_T35 x7 x10).f1) ((rd_T35 x7 x10).f2))))) else (stickfullaw14_FillCovers.j1 k x0 x7 x10 true ((rd_T35 x7 x10).f0) ((rd_T35 x7 x10).f1) ((rd_T35 x7 x10).f2))) else (none)) else (if x9 = (x0.length : Int) then (if (x7.length : Int) > 0 then ((stickfullaw14_head.f k).bind fun t255 => (some t255)) else (some false)) else (some false))
def stickfullaw14_FillCovers.j1 : Nat → List (S44) → List (S35) → Int → Bool → Int → Int → Bool → Option (Bool)
 | 0, _, _, _, _, _, _, _ => none
 | k + 1, x0, x7, x10, x75, x258000, x258001, x258002 => if x75 = true then (some false) else ((fill_Ends.f k x0 x258000).bind fun bt258 => (if bt258.2.2 = 0 then ((stickfullaw14_has.f k bt258.1 x258001).bind fun t265 => (if t265 = true then (stickfullaw14_FillCovers.j2 k x0 x7 x10 bt258.1 false x258000 x258001 x258002) else ((stickfullaw14_has.f k bt258.2.1 x258001).bind fun t266 => (stickfullaw14_FillCovers.j2 k x0 x7 x10 bt258.1 (!t266) x258000 x258001 x258002)))) else (stickfullaw14_FillCovers.j2 k x0 x7 x10 bt258.1 true x258000 x258001 x258002)))
def stickfullaw14_FillCovers.j2 : Nat → List (S44) → List (S35) → Int → List Int → Bool → Int → Int → Bool → Option (Bool)
 | 0, _, _, _, _, _, _, _, _ => none
 | k + 1, x0, x7, x10, x12, x99, x258000, x258001, x258002 => if x99 = true then (some false) else (if (wrap64 (x10 + 1)) < (x7.length : Int) then (if x258002 = true then (if 0 ≤ (wrap64 ((x12.length : Int) - 1)) then (if (wrap64 ((x12.length : Int) - 1)) < (x12.length : Int) then (if x258001 = (rd x12 (wrap64 ((x12.length : Int) - 1))) then (if (wrap64 (x10 + 1)) = (x7.length : Int) then (some false) else (stickfullaw14_FillCovers.l0 k x0 x7 x258001 (wrap64 (x10 + 1)))) else (some false)) else (none)) else (none)) else (if 0 ≤ x258000 then (if x258000 ≤ x258001 then (if x258001 ≤ (x0.length : Int) then ((trim_Blank.f k ((x0.take (x258001 : Int).toNat).drop (x258000 : Int).toNat)).bind fun t272 => (if t272 = true then (some false) else (if (wrap64 (x10 + 1)) = (x7.length : Int) then (stickfullaw14_FillCovers.l0 k x0 x7 x258001 (wrap64 (x10 + 1))) else (stickfullaw14_FillCovers.l0 k x0 x7 x258001 (wrap64 (x10 + 1)))))) else (none)) else (none)) else (none))) else (if x258002 = true then (if 0 ≤ (wrap64 ((x12.length : Int) - 1)) then (if (wrap64 ((x12.length : Int) - 1)) < (x12.length : Int) then (if x258001 = (rd x12 (wrap64 ((x12.length : Int) - 1))) then (if (wrap64 (x10 + 1)) = (x7.length : Int) then (some false) else (stickfullaw14_FillCovers.l0 k x0 x7 x258001 (wrap64 (x10 + 1)))) else (some false)) else (none)) else (none)) else (if (wrap64 (x10 + 1)) = (x7.length : Int) then (stickfullaw14_FillCovers.l0 k x0 x7 x258001 (wrap64 (x10 + 1))) else (stickfullaw14_FillCovers.l0 k x0 x7 x258001 (wrap64 (x10 + 1))))))
end
def stickfullaw14_FillCovers.f (k : Nat) (l0 : List (S44)) (a1_0 a1_1 a2_0 a2_1 : Int) : Option (Bool) := if (l0.length : Int) > 80 then ((stickfullaw14_head.f k).bind fun t249 => (some t249)) else ((fill_Lines.f k l0 a1_0 a1_1 a2_0 a2_1).bind fun bt250 => (if bt250.2 = 0 then (stickfullaw14_FillCovers.l0 k l0 bt250.1 0 0) else (if (bt250.1.length : Int) = 0 then ((stickfullaw14_head.f k).bind fun t254 => (some t254)) else (some false))))
theorem stickfullaw14_FillCovers.mono_l : ∀ k, (∀ y0 y1 y2 y3, LeO (stickfullaw14_FillCovers.l0 k y0 y1 y2 y3) (stickfullaw14_FillCovers.l0 (k + 1) y0 y1 y2 y3)) ∧ (∀ y0 y1 y2 y3 y4 y5 y6, LeO (stickfullaw14_FillCovers.j1 k y0 y1 y2 y3 y4 y5 y6) (stickfullaw14_FillCovers.j1 (k + 1) y0 y1 y2 y3 y4 y5 y6)) ∧ (∀ y0 y1 y2 y3 y4 y5 y6 y7, LeO (stickfullaw14_FillCovers.j2 k y0 y1 y2 y3 y4 y5 y6 y7) (stickfullaw14_FillCovers.j2 (k + 1) y0 y1 y2 y3 y4 y5 y6 y7))
 | 0 => ⟨fun _ _ _ _ r h => by simp [stickfullaw14_FillCovers.l0] at h, fun _ _ _ _ _ _ _ r h => by simp [stickfullaw14_FillCovers.j1] at h, fun _ _ _ _ _ _ _ _ r h => by simp [stickfullaw14_FillCovers.j2] at h⟩
 | k + 1 => by
  obtain ⟨ih0, ih1, ih2⟩ := stickfullaw14_FillCovers.mono_l k
  refine ⟨?_, ?_, ?_⟩
  ·intro y0 y1 y2 y3
   unfold stickfullaw14_FillCovers.l0
   repeat' first
   | (with_reducible exact ih0 _ _ _ _)
   | (with_reducible exact ih1 _ _ _ _ _ _ _)
   | (with_reducible exact ih2 _ _ _ _ _ _ _ _)
   | (with_reducible exact fill_Ends.mono _ _ _)
   | (with_reducible exact fill_Lines.mono _ _ _ _ _ _)
   | (with_reducible exact stickfullaw14_has.mono _ _ _)
   | (with_reducible exact stickfullaw14_head.mono _)
   | (with_reducible exact trim_Blank.mono _ _)
   | (with_reducible exact LeO.refl _)
   | (with_reducible exact LeO.none _)
   | (with_reducible refine LeO.ite ?_ ?_)
   | (with_reducible refine LeO.bind ?_ (fun _ => ?_))
   | exact ih0 _ _ _ _
   | exact ih1 _ _ _ _ _ _ _
   | exact ih2 _ _ _ _ _ _ _ _
   | exact fill_Ends.mono _ _ _
   | exact fill_Lines.mono _ _ _ _ _ _
   | exact stickfullaw14_has.mono _ _ _
   | exact stickfullaw14_head.mono _
   | exact trim_Blank.mono _ _
   | exact LeO.none _
   | refine LeO.ite ?_ ?_
   | refine LeO.bind ?_ (fun _ => ?_)
  ·intro y0 y1 y2 y3 y4 y5 y6
   unfold stickfullaw14_FillCovers.j1
   repeat' first
   | (with_reducible exact ih0 _ _ _ _)
   | (with_reducible exact ih1 _ _ _ _ _ _ _)
   | (with_reducible exact ih2 _ _ _ _ _ _ _ _)
   | (with_reducible exact fill_Ends.mono _ _ _)
   | (with_reducible exact fill_Lines.mono _ _ _ _ _ _)
   | (with_reducible exact stickfullaw14_has.mono _ _ _)
   | (with_reducible exact stickfullaw14_head.mono _)
   | (with_reducible exact trim_Blank.mono _ _)
   | (with_reducible exact LeO.refl _)
   | (with_reducible exact LeO.none _)
   | (with_reducible refine LeO.ite ?_ ?_)
   | (with_reducible refine LeO.bind ?_ (fun _ => ?_))
   | exact ih0 _ _ _ _
   | exact ih1 _ _ _ _ _ _ _
   | exact ih2 _ _ _ _ _ _ _ _
   | exact fill_Ends.mono _ _ _
   | exact fill_Lines.mono _ _ _ _ _ _
   | exact stickfullaw14_has.mono _ _ _
   | exact stickfullaw14_head.mono _
   | exact trim_Blank.mono _ _
   | exact LeO.none _
   | refine LeO.ite ?_ ?_
   | refine LeO.bind ?_ (fun _ => ?_)
  ·intro y0 y1 y2 y3 y4 y5 y6 y7
   unfold stickfullaw14_FillCovers.j2
   repeat' first
   | (with_reducible exact ih0 _ _ _ _)
   | (with_reducible exact ih1 _ _ _ _ _ _ _)
   | (with_reducible exact ih2 _ _ _ _ _ _ _ _)
   | (with_reducible exact fill_Ends.mono _ _ _)
   | (with_reducible exact fill_Lines.mono _ _ _ _ _ _)
   | (with_reducible exact stickfullaw14_has.mono _ _ _)
   | (with_reducible exact stickfullaw14_head.mono _)
   | (with_reducible exact trim_Blank.mono _ _)
   | (with_reducible exact LeO.refl _)
   | (with_reducible exact LeO.none _)
   | (with_reducible refine LeO.ite ?_ ?_)
   | (with_reducible refine LeO.bind ?_ (fun _ => ?_))
   | exact ih0 _ _ _ _
   | exact ih1 _ _ _ _ _ _ _
   | exact ih2 _ _ _ _ _ _ _ _
   | exact fill_Ends.mono _ _ _
   | exact fill_Lines.mono _ _ _ _ _ _
   | exact stickfullaw14_has.mono _ _ _
   | exact stickfullaw14_head.mono _
   | exact trim_Blank.mono _ _
   | exact LeO.none _
   | refine LeO.ite ?_ ?_
   | refine LeO.bind ?_ (fun _ => ?_)
theorem stickfullaw14_FillCovers.mono : ∀ a0 a1 a2 a3 a4 k, LeO (stickfullaw14_FillCovers.f k a0 a1 a2 a3 a4) (stickfullaw14_FillCovers.f (k + 1) a0 a1 a2 a3 a4) := by
 intro a0 a1 a2 a3 a4 k
 obtain ⟨ih0, ih1, ih2⟩ := stickfullaw14_FillCovers.mono_l k
 unfold stickfullaw14_FillCovers.f
 repeat' first
   | (with_reducible exact ih0 _ _ _ _)
   | (with_reducible exact ih1 _ _ _ _ _ _ _)
   | (with_reducible exact ih2 _ _ _ _ _ _ _ _)
   | (with_reducible exact fill_Ends.mono _ _ _)
   | (with_reducible exact fill_Lines.mono _ _ _ _ _ _)
   | (with_reducible exact stickfullaw14_has.mono _ _ _)
   | (with_reducible exact stickfullaw14_head.mono _)
   | (with_reducible exact trim_Blank.mono _ _)
   | (with_reducible exact LeO.refl _)
   | (with_reducible exact LeO.none _)
   | (with_reducible refine LeO.ite ?_ ?_)
   | (with_reducible refine LeO.bind ?_ (fun _ => ?_))
   | exact ih0 _ _ _ _
   | exact ih1 _ _ _ _ _ _ _
   | exact ih2 _ _ _ _ _ _ _ _
   | exact fill_Ends.mono _ _ _
   | exact fill_Lines.mono _ _ _ _ _ _
   | exact stickfullaw14_has.mono _ _ _
   | exact stickfullaw14_head.mono _
   | exact trim_Blank.mono _ _
   | exact LeO.none _
   | refine LeO.ite ?_ ?_
   | refine LeO.bind ?_ (fun _ => ?_)
def stickfullaw14_FillCovers.T16 : Bool × List (List Nat × List Nat) := (true, [([], []), ([0], [0]), ([], []), ([2], [2]), ([1, 3], [1, 3]), ([4], [4]), ([5], [5]), ([6, 5], [5, 6]), ([7, 5], [5, 7]), ([5, 8], [5, 8]), ([9, 5], [9]), ([10], [10]), ([10], [10]), ([12, 10], [10, 12]), ([10], [10]), ([14, 10], [10, 14]), ([11, 13, 15, 10], [10, 11, 13, 15]), ([16, 10, 10], [10, 16]), ([10, 17], [10, 17]), ([18, 17], [18]), ([19], [19]), ([20, 19], [19, 20]), ([21, 19, 19], [19, 21]), ([22], [22]), ([23, 22], [22, 23]), ([22], [22]), ([22], [22]), ([26, 22], [22, 26]), ([27, 22], [22, 27]), ([25, 28, 22], [22, 25, 28]), ([29, 22], [22, 29]), ([24, 30, 22], [22, 24, 30]), ([22, 31, 19], [19, 22, 31]), ([19, 32], [19, 32]), ([33, 22], [33]), ([34], [34]), ([35, 34], [34, 35]), ([34], [34]), ([37, 34], [34, 37]), ([36, 38, 34], [34, 36, 38]), ([39, 34, 34], [34, 39]), ([40], [40]), ([41, 40], [40, 41]), ([40, 42, 34], [34, 40, 42]), ([34, 43], [34, 43])])
def stickfullaw14_FillCovers.B16 : List Nat := [0, 1, 0, 4, 15, 31, 63, 127, 255, 511, 1023, 2047, 2047, 6143, 2047, 18431, 65535, 131071, 262143, 524287, 1048575, 2097151, 4194303, 8388607, 16777215, 8388607, 8388607, 75497471, 209715199, 511705087, 1048575999, 2147483647, 4294967295, 8589934591, 17179869183, 34359738367, 68719476735, 34359738367, 171798691839, 549755813887, 1099511627775, 2199023255551, 4398046511103, 8796093022207, 17592186044415]
theorem stickfullaw14_FillCovers.tab16 : rtab .any (opsOf Try.f4 16) = stickfullaw14_FillCovers.T16 := by kernel_rfl
theorem stickfullaw14_FillCovers.bits16 : waitsOk stickfullaw14_FillCovers.T16.2 stickfullaw14_FillCovers.B16 = true := by kernel_rfl
set_option maxHeartbeats 8000000 in
set_option maxRecDepth 100000 in
theorem stickfullaw14_FillCovers.calls_t (k : Nat) (A0 : Option Addr) (c0 : Nat) (l0 : List (S44)) (a1_0 a1_1 a2_0 a2_1 : Int) (r : Bool) (w : World) (hr0 : Kd.C k44 w A0 l0.length l0) (hc0 : l0.length ≤ c0) (h : stickfullaw14_FillCovers.f k l0 a1_0 a1_1 a2_0 a2_1 = some r) (hr_ : r = true) :
  Calls Try.prog 4 #[.slice A0 l0.length c0, .agg #[.int .i64 a1_0, .int .i64 a1_1], .agg #[.int .i64 a2_0, .int .i64 a2_1]] w fun e w' => e = .returned (.bool r) ∧ Below w.heap.size w w' := by
 have hu24 := Try.underlying24
 have hu35 := Try.underlying35
 have HR_ := Aside0.mk hr_
 clear hr_
 have HR0 := Aside0.mk hr0
 have HC0 := Aside0.mk hc0
 clear hr0 hc0
 have HB := Aside0.mk (Below.refl w.heap.size w)
 have H : (if (l0.length : Int) > 80 then ((stickfullaw14_head.f k).bind fun t249 => (some t249)) else ((fill_Lines.f k l0 a1_0 a1_1 a2_0 a2_1).bind fun bt250 => (if bt250.2 = 0 then (stickfullaw14_FillCovers.l0 k l0 bt250.1 0 0) else (if (bt250.1.length : Int) = 0 then ((stickfullaw14_head.f k).bind fun t254 => (some t254)) else (some false))))) = some r := h
 clear h
 by_cases c4 : (l0.length : Int) > 80
 ·rw [if_pos c4] at H
  have c4b0 : decide (80 < (l0.length : Int)) = true := decide_eq_true c4
  have c4b1 : decide (80 < l0.length) = true := decide_eq_true (by omega)
  clear c4
  replace H := Option.bind_eq_some_iff.mp H
  obtain ⟨t249, A50, H⟩ := H
  replace H : (some t249) = some r := H
  have A5 := Aside0.mk A50
  clear A50
  obtain rfl := Option.some.inj H
  go_enter Try.func4, Try.ntmps4
  go_wp2_with (first | ((with_reducible refine gate_dst (N := 4) rfl ?_); (try (refine gate_guard (by rfl) ?_; dsimp only)); refine box_event ?hg (N := 4) ?hd (cs := #[.int .i64 a1_0, .int .i64 a1_1]) (t := 24) ?hr ?_; (case hd => rfl); (case hg => rfl); (case hr => first | (go_simp; done) | (go_simp; rfl)); intro gb247 hg w6 hbox hb; have BK247 := Aside0.mk (hbox); have GW247 := bge HB hg; have GE247 := bge HB hg; replace HB := bh HB hb; clear hb hbox hg) | ((with_reducible refine gate_dst (N := 5) rfl ?_); (try (refine gate_guard (by rfl) ?_; dsimp only)); refine box_event ?hg (N := 5) ?hd (cs := #[.int .i64 a2_0, .int .i64 a2_1]) (t := 24) ?hr ?_; (case hd => rfl); (case hg => rfl); (case hr => first | (go_simp; done) | (go_simp; rfl)); intro gb248 hg w7 hbox hb; have BK248 := Aside0.mk (hbox); have GW248 := bge HB hg; have GE248 := bge HB hg; replace HB := bh HB hb; have NB247_248 := nbl BK247 hg; have NB248_247 := nbg BK247 hg; replace BK247 := bb BK247 hb; clear hb hbox hg) | ((with_reducible refine gate_callee (f := 8) rfl ?_); refine goesB (some 18) rfl rfl Try.func8 #[] rfl ?_; (with_reducible refine (stickfullaw14_head.calls k  t249 _ A5.out).mono ?_); rintro e w8 ⟨rfl, hb⟩; refine ⟨_, rfl, ?_⟩; replace BK247 := bb BK247 hb; replace BK248 := bb BK248 hb; replace HB := bh HB hb; (try clear hb); (try clear hb2); (try clear hk); (try clear hi)))
  go_ret
  exact ⟨by first | rfl | (simp [errW_none, errW_some] <;> rfl) | (simp [*, errW_none, errW_some] <;> rfl), by repeat (first | (with_reducible first | exact HB.out | apply below_alloc | apply pw_below_drewN | apply below_drew1 | refine below_set ?_ GE247.out | refine below_set ?_ GE248.out) | exact HB.out)⟩
 ·rw [if_neg c4] at H
  have c4b0 : decide (80 < (l0.length : Int)) = false := decide_eq_false c4
  have c4b1 : decide (80 < l0.length) = false := decide_eq_false (by omega)
  clear c4
  replace H := Option.bind_eq_some_iff.mp H
  obtain ⟨⟨t250, t253⟩, A90, H⟩ := H
  replace H : (if t253 = 0 then (stickfullaw14_FillCovers.l0 k l0 t250 0 0) else (if (t250.length : Int) = 0 then ((stickfullaw14_head.f k).bind fun t254 => (some t254)) else (some false))) = some r := H
  have A9 := Aside0.mk A90
  clear A90
  by_cases c10 : t253 = 0
  ·rw [if_pos c10] at H
   have c10b0 : (t253 == 0) = true := beq_iff_eq.mpr c10
   have c10b1 : (t253 != 0) = false := bne_eq_false_iff_eq.mpr c10
   clear c10
   have H' := Aside0.mk H
   clear H
   go_enter Try.func4, Try.ntmps4
   go_wp2_with (first | ((with_reducible refine gate_dst (N := 4) rfl ?_); (try (refine gate_guard (by rfl) ?_; dsimp only)); refine box_event ?hg (N := 4) ?hd (cs := #[.int .i64 a1_0, .int .i64 a1_1]) (t := 24) ?hr ?_; (case hd => rfl); (case hg => rfl); (case hr => first | (go_simp; done) | (go_simp; rfl)); intro gb247 hg w11 hbox hb; have BK247 := Aside0.mk (hbox); have GW247 := bge HB hg; have GE247 := bge HB hg; replace HB := bh HB hb; clear hb hbox hg) | ((with_reducible refine gate_dst (N := 5) rfl ?_); (try (refine gate_guard (by rfl) ?_; dsimp only)); refine box_event ?hg (N := 5) ?hd (cs := #[.int .i64 a2_0, .int .i64 a2_1]) (t := 24) ?hr ?_; (case hd => rfl); (case hg => rfl); (case hr => first | (go_simp; done) | (go_simp; rfl)); intro gb248 hg w12 hbox hb; have BK248 := Aside0.mk (hbox); have GW248 := bge HB hg; have GE248 := bge HB hg; replace HB := bh HB hb; have NB247_248 := nbl BK247 hg; have NB248_247 := nbg BK247 hg; replace BK247 := bb BK247 hb; clear hb hbox hg; have hnb13 := NB247_248.out; have hnc13 := NB248_247.out; obtain ⟨hcz14_0, hcz14_1⟩ := cz2 BK247; obtain ⟨hfz14_0, hfz14_1⟩ := fz2 BK247; obtain ⟨hcz15_0, hcz15_1⟩ := cz2 BK248; obtain ⟨hfz15_0, hfz15_1⟩ := fz2 BK248) | ((with_reducible refine gate_callee (f := 9) rfl ?_); refine goesB (some 23) rfl rfl Try.func9 #[.slice A0 l0.length c0, .agg #[.int .i64 a1_0, .int .i64 a1_1], .agg #[.int .i64 a2_0, .int .i64 a2_1]] rfl ?_; (with_reducible refine (fill_Lines.calls k _ _ l0 a1_0 a1_1 a2_0 a2_1 t250 t253 _ ?side1 ?side2 A9.out).mono ?_); (case side1 => repeat (first | exact (Kd.C_below HR0.out HB.out) | (with_reducible refine Kd.C_alloc ?_ _) | (with_reducible refine Kd.C_drewN ?_ _) | (with_reducible refine Kd.C_drew ?_))); (case side2 => exact HC0.out); rintro e w16 ⟨v251, rfl, ho0, hb⟩; refine ⟨_, rfl, ?_⟩; have HO252 := Aside0.mk (Kd.R_lower ho0 (below_size (bw HB))); replace BK247 := bb BK247 hb; replace BK248 := bb BK248 hb; replace HB := bh HB hb; (try clear hb); (try clear hb2); (try clear hk); (try clear hi); (try clear ho0)))
   go_loopg [9, 10] k (fun kq v9 v10 w' => ∃ (x9_1 x10_1 : Int), v9 = .int .i64 x9_1 ∧ v10 = .int .i64 x10_1 ∧ Aside0 (stickfullaw14_FillCovers.l0 kq l0 t250 x9_1 x10_1 = some r) ∧ Aside0 (kq ≤ k) ∧ Aside0 (Kd.R k35 35 w' w.heap.size (fun _ => True) v251 t250) ∧ Aside0 (w'.heap[gb247]? = some (.cells #[.int .i64 a1_0, .int .i64 a1_1] 24 (0, 0))) ∧ Aside0 (w'.heap[gb248]? = some (.cells #[.int .i64 a2_0, .int .i64 a2_1] 24 (0, 0))) ∧ Aside0 (Below w.heap.size w w'))
   case atStart => exact ⟨(0), (0), (by first | rfl | (simp; done) | (simp [*]; done)), (by first | rfl | (simp; done) | (simp [*]; done)), H', ⟨Nat.le_refl _⟩, ⟨by (with_reducible repeat (first | apply Kd.R_alloc | apply Kd.R_drewN | apply Kd.R_drew)); exact HO252.out⟩, ⟨by (with_reducible repeat (first | refine blk_drewN ?_ _ | refine blk_drew ?_ | refine blk_alloc ?_ _)); exact BK247.out⟩, ⟨by (with_reducible repeat (first | refine blk_drewN ?_ _ | refine blk_drew ?_ | refine blk_alloc ?_ _)); exact BK248.out⟩, ⟨by repeat (first | (with_reducible first | exact HB.out | apply below_alloc | apply pw_below_drewN | apply below_drew1 | refine below_set ?_ GE247.out | refine below_set ?_ GE248.out) | exact HB.out)⟩⟩
   case round =>
    clear H'
    try clear c1
    try clear p2
    try clear c4
    try clear c4b0
    try clear c4b1
    try clear c8
    try clear c9
    try clear c10
    try clear c10b0
    try clear c10b1
    try clear c13
    try clear hcz14_0
    try clear hcz14_1
    try clear hcz15_0
    try clear hcz15_1
    try clear hfz14_0
    try clear hfz14_1
    try clear hfz15_0
    try clear hfz15_1
    obtain ⟨x9_1, x10_1, rfl, rfl, HA, HK1, HO_7, BK247, BK248, HB⟩ := hrel
    cases gk with
    | zero => exact absurd HA.out (by simp [stickfullaw14_FillCovers.l0])
    | succ k1 =>
     have H := HA.out
     clear HA
     simp only [stickfullaw14_FillCovers.l0] at H
     by_cases c17 : x10_1 < (t250.length : Int)
     ·rw [if_pos c17] at H
      have c17b0 : decide (x10_1 < (t250.length : Int)) = true := decide_eq_true c17
      clear c17
      by_cases c18 : 0 ≤ x10_1
      ·rw [if_pos c18] at H
       have c18b0 : decide (0 ≤ x10_1) = true := decide_eq_true c18
       clear c18
       have HC19 := Aside0.mk H
       clear H
       obtain ⟨Ao20, co20, eo20⟩ := Kd.R_slice HO_7.out
       subst eo20
       have p256 : 0 ≤ (x10_1 : Int) := of_decide_eq_true (by first | (with_reducible assumption) | assumption)
       have q256 : x10_1 < (t250.length : Int) := of_decide_eq_true (by first | (with_reducible assumption) | assumption)
       obtain ⟨ad256, e256, hx256_0, hx256_1, hx256_2⟩ := at_T35 (Kd.R_reads' HO_7.out).2.2 x10_1 p256 q256
       cases e256
       replace p256 := eq_true p256
       replace q256 := eq_true q256
       go_upto_region 11 with (first | ((with_reducible refine gate_dst (N := 11) rfl ?_); (try (refine gate_guard (by rfl) ?_; dsimp only)); refine box_event ?hg (N := 11) ?hd (cs := #[.int .i64 0, .int .i64 0, .bool false]) (t := 35) ?hr ?_; (case hd => rfl); (case hg => rfl); (case hr => first | (go_simp; done) | (go_simp; rfl)); intro gb257 hg w21 hbox hb; replace HO_7 := Aside0.mk (Kd.R_below (Kd.R_elderB (rx HO_7) gb257 (Nat.le_of_eq hg.symm)) hb); have BK257 := Aside0.mk (hbox); have GW257 := bge HB hg; have GE257 := bge HB hg; replace HB := bh HB hb; have NB247_257 := nbl BK247 hg; have NB257_247 := nbg BK247 hg; replace BK247 := bb BK247 hb; have NB248_257 := nbl BK248 hg; have NB257_248 := nbg BK248 hg; replace BK248 := bb BK248 hb; clear hb hbox hg; have hnb22 := NB257_247.out; have hnc22 := NB247_257.out; have hnb23 := NB257_248.out; have hnc23 := NB248_257.out; obtain ⟨hcz24_0, hcz24_1, hcz24_2⟩ := cz3 BK257; obtain ⟨hfz24_0, hfz24_1, hfz24_2⟩ := fz3 BK257))
       (try simp only [Act.put, List.setIfInBounds_toArray, List.set_cons_zero, List.set_cons_succ])
       go_cut [75] (fun v75 wc => ∃ (kq : Nat) (x75_18 : Bool), v75 = .bool x75_18 ∧ Aside0 (stickfullaw14_FillCovers.j1 kq l0 t250 x10_1 x75_18 ((rd_T35 t250 x10_1).f0) ((rd_T35 t250 x10_1).f1) ((rd_T35 t250 x10_1).f2) = some r) ∧ Aside0 (kq ≤ k1) ∧ Aside0 (Kd.R k35 35 wc w.heap.size (fun k_ => k_ ≠ gb257) (.slice (some ad256) t250.length co20) t250) ∧ Aside0 (wc.heap[gb247]? = some (.cells #[.int .i64 a1_0, .int .i64 a1_1] 24 (0, 0))) ∧ Aside0 (wc.heap[gb248]? = some (.cells #[.int .i64 a2_0, .int .i64 a2_1] 24 (0, 0))) ∧ Aside0 (wc.heap[gb257]? = some (.cells #[.int .i64 ((rd_T35 t250 x10_1).f0), .int .i64 ((rd_T35 t250 x10_1).f1), .bool ((rd_T35 t250 x10_1).f2)] 35 (0, 0))) ∧ Aside0 (Below w.heap.size w wc))
       case first =>
        have H := HC19.out
        clear HC19
        by_cases c25 : ((rd_T35 t250 x10_1).f0) = x9_1
        ·rw [if_pos c25] at H
         have c25b0 : (((rd_T35 t250 x10_1).f0) == x9_1) = true := beq_iff_eq.mpr c25
         have c25b1 : (((rd_T35 t250 x10_1).f0) != x9_1) = false := bne_eq_false_iff_eq.mpr c25
         clear c25
         (first | rw [c25b0] | (simp only [i64_w, i32_w]; rw [c25b0]) | skip)
         by_cases c26 : ((rd_T35 t250 x10_1).f1) < ((rd_T35 t250 x10_1).f0)
         ·rw [if_pos c26] at H
          have c26b0 : decide (((rd_T35 t250 x10_1).f1) < ((rd_T35 t250 x10_1).f0)) = true := decide_eq_true c26
          clear c26
          have H' := Aside0.mk H
          clear H
          have hnb27 := NB257_247.out
          have hnc27 := NB247_257.out
          have hnb28 := NB257_248.out
          have hnc28 := NB248_257.out
          obtain ⟨hcz29_0, hcz29_1, hcz29_2⟩ := cz3 BK257
          obtain ⟨hfz29_0, hfz29_1, hfz29_2⟩ := fz3 BK257
          go_wp2
          go_meet
          case rel => exact ⟨_, (true), (by first | rfl | (simp; done) | (simp [*]; done)), H', ⟨by have := HK1.out; first | omega | exact Nat.le_refl _⟩, ⟨by (with_reducible repeat (first | apply Kd.R_alloc | apply Kd.R_drewN | apply Kd.R_drew)); exact Kd.R_mono (Kd.R_far (p := ⟨gb257, 2, none⟩) (Kd.R_far (p := ⟨gb257, 1, none⟩) (Kd.R_far (p := ⟨gb257, 0, none⟩) (Kd.R_mono HO_7.out (fun k_ hk => (⟨hk, hk.2⟩ : _ ∧ k_ ≠ gb257))) (fun _ hk => hk.2) (.int .i64 ((rd_T35 t250 x10_1).f0))) (fun _ hk => hk.2) (.int .i64 ((rd_T35 t250 x10_1).f1))) (fun _ hk => hk.2) (.bool ((rd_T35 t250 x10_1).f2))) (fun _ hk => hk.1.2)⟩, ⟨by (with_reducible repeat (first | refine blk_drewN ?_ _ | refine blk_drew ?_ | refine blk_alloc ?_ _)); refine blk_far ?_ NB247_257.out _; (with_reducible repeat (first | refine blk_drewN ?_ _ | refine blk_drew ?_ | refine blk_alloc ?_ _)); refine blk_far ?_ NB247_257.out _; (with_reducible repeat (first | refine blk_drewN ?_ _ | refine blk_drew ?_ | refine blk_alloc ?_ _)); refine blk_far ?_ NB247_257.out _; (with_reducible repeat (first | refine blk_drewN ?_ _ | refine blk_drew ?_ | refine blk_alloc ?_ _)); exact BK247.out⟩, ⟨by (with_reducible repeat (first | refine blk_drewN ?_ _ | refine blk_drew ?_ | refine blk_alloc ?_ _)); refine blk_far ?_ NB248_257.out _; (with_reducible repeat (first | refine blk_drewN ?_ _ | refine blk_drew ?_ | refine blk_alloc ?_ _)); refine blk_far ?_ NB248_257.out _; (with_reducible repeat (first | refine blk_drewN ?_ _ | refine blk_drew ?_ | refine blk_alloc ?_ _)); refine blk_far ?_ NB248_257.out _; (with_reducible repeat (first | refine blk_drewN ?_ _ | refine blk_drew ?_ | refine blk_alloc ?_ _)); exact BK248.out⟩, ⟨by (with_reducible repeat (first | refine blk_drewN ?_ _ | refine blk_drew ?_ | refine blk_alloc ?_ _)); refine blk_put (cs := #[.int .i64 ((rd_T35 t250 x10_1).f0), .int .i64 ((rd_T35 t250 x10_1).f1), .bool false]) ?_ 2 _ rfl; (with_reducible repeat (first | refine blk_drewN ?_ _ | refine blk_drew ?_ | refine blk_alloc ?_ _)); refine blk_put (cs := #[.int .i64 ((rd_T35 t250 x10_1).f0), .int .i64 0, .bool false]) ?_ 1 _ rfl; (with_reducible repeat (first | refine blk_drewN ?_ _ | refine blk_drew ?_ | refine blk_alloc ?_ _)); refine blk_put (cs := #[.int .i64 0, .int .i64 0, .bool false]) ?_ 0 _ rfl; (with_reducible repeat (first | refine blk_drewN ?_ _ | refine blk_drew ?_ | refine blk_alloc ?_ _)); exact BK257.out⟩, ⟨by repeat (first | (with_reducible first | exact HB.out | apply below_alloc | apply pw_below_drewN | apply below_drew1 | refine below_set ?_ GE247.out | refine below_set ?_ GE248.out | refine below_set ?_ GE257.out) | exact HB.out)⟩⟩
         ·rw [if_neg c26] at H
          have c26b0 : decide (((rd_T35 t250 x10_1).f1) < ((rd_T35 t250 x10_1).f0)) = false := decide_eq_false c26
          clear c26
          by_cases c30 : ((rd_T35 t250 x10_1).f1) > (l0.length : Int)
          ·rw [if_pos c30] at H
           have c30b0 : decide ((l0.length : Int) < ((rd_T35 t250 x10_1).f1)) = true := decide_eq_true c30
           clear c30
           have H' := Aside0.mk H
           clear H
           have hnb31 := NB257_247.out
           have hnc31 := NB247_257.out
           have hnb32 := NB257_248.out
           have hnc32 := NB248_257.out
           obtain ⟨hcz33_0, hcz33_1, hcz33_2⟩ := cz3 BK257
           obtain ⟨hfz33_0, hfz33_1, hfz33_2⟩ := fz3 BK257
           go_wp2
           go_meet
           case rel => exact ⟨_, (true), (by first | rfl | (simp; done) | (simp [*]; done)), H', ⟨by have := HK1.out; first | omega | exact Nat.le_refl _⟩, ⟨by (with_reducible repeat (first | apply Kd.R_alloc | apply Kd.R_drewN | apply Kd.R_drew)); exact Kd.R_mono (Kd.R_far (p := ⟨gb257, 2, none⟩) (Kd.R_far (p := ⟨gb257, 1, none⟩) (Kd.R_far (p := ⟨gb257, 0, none⟩) (Kd.R_mono HO_7.out (fun k_ hk => (⟨hk, hk.2⟩ : _ ∧ k_ ≠ gb257))) (fun _ hk => hk.2) (.int .i64 ((rd_T35 t250 x10_1).f0))) (fun _ hk => hk.2) (.int .i64 ((rd_T35 t250 x10_1).f1))) (fun _ hk => hk.2) (.bool ((rd_T35 t250 x10_1).f2))) (fun _ hk => hk.1.2)⟩, ⟨by (with_reducible repeat (first | refine blk_drewN ?_ _ | refine blk_drew ?_ | refine blk_alloc ?_ _)); refine blk_far ?_ NB247_257.out _; (with_reducible repeat (first | refine blk_drewN ?_ _ | refine blk_drew ?_ | refine blk_alloc ?_ _)); refine blk_far ?_ NB247_257.out _; (with_reducible repeat (first | refine blk_drewN ?_ _ | refine blk_drew ?_ | refine blk_alloc ?_ _)); refine blk_far ?_ NB247_257.out _; (with_reducible repeat (first | refine blk_drewN ?_ _ | refine blk_drew ?_ | refine blk_alloc ?_ _)); exact BK247.out⟩, ⟨by (with_reducible repeat (first | refine blk_drewN ?_ _ | refine blk_drew ?_ | refine blk_alloc ?_ _)); refine blk_far ?_ NB248_257.out _; (with_reducible repeat (first | refine blk_drewN ?_ _ | refine blk_drew ?_ | refine blk_alloc ?_ _)); refine blk_far ?_ NB248_257.out _; (with_reducible repeat (first | refine blk_drewN ?_ _ | refine blk_drew ?_ | refine blk_alloc ?_ _)); refine blk_far ?_ NB248_257.out _; (with_reducible repeat (first | refine blk_drewN ?_ _ | refine blk_drew ?_ | refine blk_alloc ?_ _)); exact BK248.out⟩, ⟨by (with_reducible repeat (first | refine blk_drewN ?_ _ | refine blk_drew ?_ | refine blk_alloc ?_ _)); refine blk_put (cs := #[.int .i64 ((rd_T35 t250 x10_1).f0), .int .i64 ((rd_T35 t250 x10_1).f1), .bool false]) ?_ 2 _ rfl; (with_reducible repeat (first | refine blk_drewN ?_ _ | refine blk_drew ?_ | refine blk_alloc ?_ _)); refine blk_put (cs := #[.int .i64 ((rd_T35 t250 x10_1).f0), .int .i64 0, .bool false]) ?_ 1 _ rfl; (with_reducible repeat (first | refine blk_drewN ?_ _ | refine blk_drew ?_ | refine blk_alloc ?_ _)); refine blk_put (cs := #[.int .i64 0, .int .i64 0, .bool false]) ?_ 0 _ rfl; (with_reducible repeat (first | refine blk_drewN ?_ _ | refine blk_drew ?_ | refine blk_alloc ?_ _)); exact BK257.out⟩, ⟨by repeat (first | (with_reducible first | exact HB.out | apply below_alloc | apply pw_below_drewN | apply below_drew1 | refine below_set ?_ GE247.out | refine below_set ?_ GE248.out | refine below_set ?_ GE257.out) | exact HB.out)⟩⟩
          ·rw [if_neg c30] at H
           have c30b0 : decide ((l0.length : Int) < ((rd_T35 t250 x10_1).f1)) = false := decide_eq_false c30
           clear c30
           by_cases c34 : (wrap64 (x10_1 + 1)) < (t250.length : Int)
           ·rw [if_pos c34] at H
            have c34b0 : decide ((wrap64 (x10_1 + 1)) < (t250.length : Int)) = true := decide_eq_true c34
            clear c34
            have H' := Aside0.mk H
            clear H
            have hnb35 := NB257_247.out
            have hnc35 := NB247_257.out
            have hnb36 := NB257_248.out
            have hnc36 := NB248_257.out
            obtain ⟨hcz37_0, hcz37_1, hcz37_2⟩ := cz3 BK257
            obtain ⟨hfz37_0, hfz37_1, hfz37_2⟩ := fz3 BK257
            go_wp2
            go_meet
            case rel => exact ⟨_, ((((rd_T35 t250 x10_1).f1) == ((rd_T35 t250 x10_1).f0))), (by first | rfl | (simp; done) | (simp [*]; done)), H', ⟨by have := HK1.out; first | omega | exact Nat.le_refl _⟩, ⟨by (with_reducible repeat (first | apply Kd.R_alloc | apply Kd.R_drewN | apply Kd.R_drew)); exact Kd.R_mono (Kd.R_far (p := ⟨gb257, 2, none⟩) (Kd.R_far (p := ⟨gb257, 1, none⟩) (Kd.R_far (p := ⟨gb257, 0, none⟩) (Kd.R_mono HO_7.out (fun k_ hk => (⟨hk, hk.2⟩ : _ ∧ k_ ≠ gb257))) (fun _ hk => hk.2) (.int .i64 ((rd_T35 t250 x10_1).f0))) (fun _ hk => hk.2) (.int .i64 ((rd_T35 t250 x10_1).f1))) (fun _ hk => hk.2) (.bool ((rd_T35 t250 x10_1).f2))) (fun _ hk => hk.1.2)⟩, ⟨by (with_reducible repeat (first | refine blk_drewN ?_ _ | refine blk_drew ?_ | refine blk_alloc ?_ _)); refine blk_far ?_ NB247_257.out _; (with_reducible repeat (first | refine blk_drewN ?_ _ | refine blk_drew ?_ | refine blk_alloc ?_ _)); refine blk_far ?_ NB247_257.out _; (with_reducible repeat (first | refine blk_drewN ?_ _ | refine blk_drew ?_ | refine blk_alloc ?_ _)); refine blk_far ?_ NB247_257.out _; (with_reducible repeat (first | refine blk_drewN ?_ _ | refine blk_drew ?_ | refine blk_alloc ?_ _)); exact BK247.out⟩, ⟨by (with_reducible repeat (first | refine blk_drewN ?_ _ | refine blk_drew ?_ | refine blk_alloc ?_ _)); refine blk_far ?_ NB248_257.out _; (with_reducible repeat (first | refine blk_drewN ?_ _ | refine blk_drew ?_ | refine blk_alloc ?_ _)); refine blk_far ?_ NB248_257.out _; (with_reducible repeat (first | refine blk_drewN ?_ _ | refine blk_drew ?_ | refine blk_alloc ?_ _)); refine blk_far ?_ NB248_257.out _; (with_reducible repeat (first | refine blk_drewN ?_ _ | refine blk_drew ?_ | refine blk_alloc ?_ _)); exact BK248.out⟩, ⟨by (with_reducible repeat (first | refine blk_drewN ?_ _ | refine blk_drew ?_ | refine blk_alloc ?_ _)); refine blk_put (cs := #[.int .i64 ((rd_T35 t250 x10_1).f0), .int .i64 ((rd_T35 t250 x10_1).f1), .bool false]) ?_ 2 _ rfl; (with_reducible repeat (first | refine blk_drewN ?_ _ | refine blk_drew ?_ | refine blk_alloc ?_ _)); refine blk_put (cs := #[.int .i64 ((rd_T35 t250 x10_1).f0), .int .i64 0, .bool false]) ?_ 1 _ rfl; (with_reducible repeat (first | refine blk_drewN ?_ _ | refine blk_drew ?_ | refine blk_alloc ?_ _)); refine blk_put (cs := #[.int .i64 0, .int .i64 0, .bool false]) ?_ 0 _ rfl; (with_reducible repeat (first | refine blk_drewN ?_ _ | refine blk_drew ?_ | refine blk_alloc ?_ _)); exact BK257.out⟩, ⟨by repeat (first | (with_reducible first | exact HB.out | apply below_alloc | apply pw_below_drewN | apply below_drew1 | refine below_set ?_ GE247.out | refine below_set ?_ GE248.out | refine below_set ?_ GE257.out) | exact HB.out)⟩⟩
           ·rw [if_neg c34] at H
            have c34b0 : decide ((wrap64 (x10_1 + 1)) < (t250.length : Int)) = false := decide_eq_false c34
            clear c34
            have H' := Aside0.mk H
            clear H
            have hnb38 := NB257_247.out
            have hnc38 := NB247_257.out
            have hnb39 := NB257_248.out
            have hnc39 := NB248_257.out
            obtain ⟨hcz40_0, hcz40_1, hcz40_2⟩ := cz3 BK257
            obtain ⟨hfz40_0, hfz40_1, hfz40_2⟩ := fz3 BK257
            go_wp2
            go_meet
            case rel => exact ⟨_, (false), (by first | rfl | (simp; done) | (simp [*]; done)), H', ⟨by have := HK1.out; first | omega | exact Nat.le_refl _⟩, ⟨by (with_reducible repeat (first | apply Kd.R_alloc | apply Kd.R_drewN | apply Kd.R_drew)); exact Kd.R_mono (Kd.R_far (p := ⟨gb257, 2, none⟩) (Kd.R_far (p := ⟨gb257, 1, none⟩) (Kd.R_far (p := ⟨gb257, 0, none⟩) (Kd.R_mono HO_7.out (fun k_ hk => (⟨hk, hk.2⟩ : _ ∧ k_ ≠ gb257))) (fun _ hk => hk.2) (.int .i64 ((rd_T35 t250 x10_1).f0))) (fun _ hk => hk.2) (.int .i64 ((rd_T35 t250 x10_1).f1))) (fun _ hk => hk.2) (.bool ((rd_T35 t250 x10_1).f2))) (fun _ hk => hk.1.2)⟩, ⟨by (with_reducible repeat (first | refine blk_drewN ?_ _ | refine blk_drew ?_ | refine blk_alloc ?_ _)); refine blk_far ?_ NB247_257.out _; (with_reducible repeat (first | refine blk_drewN ?_ _ | refine blk_drew ?_ | refine blk_alloc ?_ _)); refine blk_far ?_ NB247_257.out _; (with_reducible repeat (first | refine blk_drewN ?_ _ | refine blk_drew ?_ | refine blk_alloc ?_ _)); refine blk_far ?_ NB247_257.out _; (with_reducible repeat (first | refine blk_drewN ?_ _ | refine blk_drew ?_ | refine blk_alloc ?_ _)); exact BK247.out⟩, ⟨by (with_reducible repeat (first | refine blk_drewN ?_ _ | refine blk_drew ?_ | refine blk_alloc ?_ _)); refine blk_far ?_ NB248_257.out _; (with_reducible repeat (first | refine blk_drewN ?_ _ | refine blk_drew ?_ | refine blk_alloc ?_ _)); refine blk_far ?_ NB248_257.out _; (with_reducible repeat (first | refine blk_drewN ?_ _ | refine blk_drew ?_ | refine blk_alloc ?_ _)); refine blk_far ?_ NB248_257.out _; (with_reducible repeat (first | refine blk_drewN ?_ _ | refine blk_drew ?_ | refine blk_alloc ?_ _)); exact BK248.out⟩, ⟨by (with_reducible repeat (first | refine blk_drewN ?_ _ | refine blk_drew ?_ | refine blk_alloc ?_ _)); refine blk_put (cs := #[.int .i64 ((rd_T35 t250 x10_1).f0), .int .i64 ((rd_T35 t250 x10_1).f1), .bool false]) ?_ 2 _ rfl; (with_reducible repeat (first | refine blk_drewN ?_ _ | refine blk_drew ?_ | refine blk_alloc ?_ _)); refine blk_put (cs := #[.int .i64 ((rd_T35 t250 x10_1).f0), .int .i64 0, .bool false]) ?_ 1 _ rfl; (with_reducible repeat (first | refine blk_drewN ?_ _ | refine blk_drew ?_ | refine blk_alloc ?_ _)); refine blk_put (cs := #[.int .i64 0, .int .i64 0, .bool false]) ?_ 0 _ rfl; (with_reducible repeat (first | refine blk_drewN ?_ _ | refine blk_drew ?_ | refine blk_alloc ?_ _)); exact BK257.out⟩, ⟨by repeat (first | (with_reducible first | exact HB.out | apply below_alloc | apply pw_below_drewN | apply below_drew1 | refine below_set ?_ GE247.out | refine below_set ?_ GE248.out | refine below_set ?_ GE257.out) | exact HB.out)⟩⟩
        ·rw [if_neg c25] at H
         have c25b0 : (((rd_T35 t250 x10_1).f0) == x9_1) = false := beq_eq_false_iff_ne.mpr c25
         have c25b1 : (((rd_T35 t250 x10_1).f0) != x9_1) = true := bne_iff_ne.mpr c25
         (first | rw [c25b0] | (simp only [i64_w, i32_w]; rw [c25b0]) | skip)
         have H' := Aside0.mk H
         clear H
         have hnb41 := NB257_247.out
         have hnc41 := NB247_257.out
         have hnb42 := NB257_248.out
         have hnc42 := NB248_257.out
         obtain ⟨hcz43_0, hcz43_1, hcz43_2⟩ := cz3 BK257
         obtain ⟨hfz43_0, hfz43_1, hfz43_2⟩ := fz3 BK257
         go_wp2
         go_meet
         case rel => exact ⟨_, (true), (by first | rfl | (simp; done) | (simp [*]; done)), H', ⟨by have := HK1.out; first | omega | exact Nat.le_refl _⟩, ⟨by (with_reducible repeat (first | apply Kd.R_alloc | apply Kd.R_drewN | apply Kd.R_drew)); exact Kd.R_mono (Kd.R_far (p := ⟨gb257, 2, none⟩) (Kd.R_far (p := ⟨gb257, 1, none⟩) (Kd.R_far (p := ⟨gb257, 0, none⟩) (Kd.R_mono HO_7.out (fun k_ hk => (⟨hk, hk.2⟩ : _ ∧ k_ ≠ gb257))) (fun _ hk => hk.2) (.int .i64 ((rd_T35 t250 x10_1).f0))) (fun _ hk => hk.2) (.int .i64 ((rd_T35 t250 x10_1).f1))) (fun _ hk => hk.2) (.bool ((rd_T35 t250 x10_1).f2))) (fun _ hk => hk.1.2)⟩, ⟨by (with_reducible repeat (first | refine blk_drewN ?_ _ | refine blk_drew ?_ | refine blk_alloc ?_ _)); refine blk_far ?_ NB247_257.out _; (with_reducible repeat (first | refine blk_drewN ?_ _ | refine blk_drew ?_ | refine blk_alloc ?_ _)); refine blk_far ?_ NB247_257.out _; (with_reducible repeat (first | refine blk_drewN ?_ _ | refine blk_drew ?_ | refine blk_alloc ?_ _)); refine blk_far ?_ NB247_257.out _; (with_reducible repeat (first | refine blk_drewN ?_ _ | refine blk_drew ?_ | refine blk_alloc ?_ _)); exact BK247.out⟩, ⟨by (with_reducible repeat (first | refine blk_drewN ?_ _ | refine blk_drew ?_ | refine blk_alloc ?_ _)); refine blk_far ?_ NB248_257.out _; (with_reducible repeat (first | refine blk_drewN ?_ _ | refine blk_drew ?_ | refine blk_alloc ?_ _)); refine blk_far ?_ NB248_257.out _; (with_reducible repeat (first | refine blk_drewN ?_ _ | refine blk_drew ?_ | refine blk_alloc ?_ _)); refine blk_far ?_ NB248_257.out _; (with_reducible repeat (first | refine blk_drewN ?_ _ | refine blk_drew ?_ | refine blk_alloc ?_ _)); exact BK248.out⟩, ⟨by (with_reducible repeat (first | refine blk_drewN ?_ _ | refine blk_drew ?_ | refine blk_alloc ?_ _)); refine blk_put (cs := #[.int .i64 ((rd_T35 t250 x10_1).f0), .int .i64 ((rd_T35 t250 x10_1).f1), .bool false]) ?_ 2 _ rfl; (with_reducible repeat (first | refine blk_drewN ?_ _ | refine blk_drew ?_ | refine blk_alloc ?_ _)); refine blk_put (cs := #[.int .i64 ((rd_T35 t250 x10_1).f0), .int .i64 0, .bool false]) ?_ 1 _ rfl; (with_reducible repeat (first | refine blk_drewN ?_ _ | refine blk_drew ?_ | refine blk_alloc ?_ _)); refine blk_put (cs := #[.int .i64 0, .int .i64 0, .bool false]) ?_ 0 _ rfl; (with_reducible repeat (first | refine blk_drewN ?_ _ | refine blk_drew ?_ | refine blk_alloc ?_ _)); exact BK257.out⟩, ⟨by repeat (first | (with_reducible first | exact HB.out | apply below_alloc | apply pw_below_drewN | apply below_drew1 | refine below_set ?_ GE247.out | refine below_set ?_ GE248.out | refine below_set ?_ GE257.out) | exact HB.out)⟩⟩
       case rest =>
        clear HC19
        try clear c1
        try clear c2
        try clear p2
        try clear q2
        try clear hx2
        try clear c3
        try clear c4
        try clear c4b0
        try clear c4b1
        try clear p6
        try clear c8
        try clear c9
        try clear c10
        try clear c10b0
        try clear c10b1
        try clear c13
        try clear c17
        try clear c17b0
        try clear c18
        try clear c18b0
        try clear c22
        try clear c23
        try clear c25
        try clear c25b0
        try clear c25b1
        try clear p25
        try clear q25
        try clear hx25
        try clear c26
        try clear c26b0
        try clear c27
        try clear c28
        try clear c30
        try clear c30b0
        try clear c31
        try clear c32
        try clear c34
        try clear c34b0
        try clear c35
        try clear c36
        try clear c38
        try clear c39
        try clear c41
        try clear c42
        try clear hcz14_0
        try clear hcz14_1
        try clear hcz15_0
        try clear hcz15_1
        try clear hcz24_0
        try clear hcz24_1
        try clear hcz24_2
        try clear hcz29_0
        try clear hcz29_1
        try clear hcz29_2
        try clear hcz33_0
        try clear hcz33_1
        try clear hcz33_2
        try clear hcz37_0
        try clear hcz37_1
        try clear hcz37_2
        try clear hcz40_0
        try clear hcz40_1
        try clear hcz40_2
        try clear hcz43_0
        try clear hcz43_1
        try clear hcz43_2
        try clear hfz14_0
        try clear hfz14_1
        try clear hfz15_0
        try clear hfz15_1
        try clear hfz24_0
        try clear hfz24_1
        try clear hfz24_2
        try clear hfz29_0
        try clear hfz29_1
        try clear hfz29_2
        try clear hfz33_0
        try clear hfz33_1
        try clear hfz33_2
        try clear hfz37_0
        try clear hfz37_1
        try clear hfz37_2
        try clear hfz40_0
        try clear hfz40_1
        try clear hfz40_2
        try clear hfz43_0
        try clear hfz43_1
        try clear hfz43_2
        try clear hx256_0
        try clear hx256_1
        try clear hx256_2
        try clear p2
        try clear p256
        try clear q256
        obtain ⟨kq, x75_18, rfl, HA, HJ18, HO_7, BK247, BK248, BK257, HB⟩ := hcut
        cases kq with
        | zero => exact absurd HA.out (by simp [stickfullaw14_FillCovers.j1])
        | succ kj18 =>
         have H := HA.out
         clear HA
         simp only [stickfullaw14_FillCovers.j1] at H
         by_cases c44 : x75_18 = true
         ·subst c44
          have H1 : (some false) = some r := by rw [if_pos rfl] at H; exact H
          clear H
          have H := H1
          clear H1
          exact absurd ((Option.some.inj H).trans HR_.out) (by decide)
         ·replace c44 := Bool.eq_false_iff.mpr c44
          subst c44
          have H1 : ((fill_Ends.f kj18 l0 ((rd_T35 t250 x10_1).f0)).bind fun bt258 => (if bt258.2.2 = 0 then ((stickfullaw14_has.f kj18 bt258.1 ((rd_T35 t250 x10_1).f1)).bind fun t265 => (if t265 = true then (stickfullaw14_FillCovers.j2 kj18 l0 t250 x10_1 bt258.1 false ((rd_T35 t250 x10_1).f0) ((rd_T35 t250 x10_1).f1) ((rd_T35 t250 x10_1).f2)) else ((stickfullaw14_has.f kj18 bt258.2.1 ((rd_T35 t250 x10_1).f1)).bind fun t266 => (stickfullaw14_FillCovers.j2 kj18 l0 t250 x10_1 bt258.1 (!t266) ((rd_T35 t250 x10_1).f0) ((rd_T35 t250 x10_1).f1) ((rd_T35 t250 x10_1).f2))))) else (stickfullaw14_FillCovers.j2 kj18 l0 t250 x10_1 bt258.1 true ((rd_T35 t250 x10_1).f0) ((rd_T35 t250 x10_1).f1) ((rd_T35 t250 x10_1).f2)))) = some r := by rw [if_neg (show ¬ (false = true) by decide)] at H; exact H
          clear H
          have H := H1
          clear H1
          replace H := Option.bind_eq_some_iff.mp H
          obtain ⟨⟨t258, t259, t260⟩, A450, H⟩ := H
          replace H : (if t260 = 0 then ((stickfullaw14_has.f kj18 t258 ((rd_T35 t250 x10_1).f1)).bind fun t265 => (if t265 = true then (stickfullaw14_FillCovers.j2 kj18 l0 t250 x10_1 t258 false ((rd_T35 t250 x10_1).f0) ((rd_T35 t250 x10_1).f1) ((rd_T35 t250 x10_1).f2)) else ((stickfullaw14_has.f kj18 t259 ((rd_T35 t250 x10_1).f1)).bind fun t266 => (stickfullaw14_FillCovers.j2 kj18 l0 t250 x10_1 t258 (!t266) ((rd_T35 t250 x10_1).f0) ((rd_T35 t250 x10_1).f1) ((rd_T35 t250 x10_1).f2))))) else (stickfullaw14_FillCovers.j2 kj18 l0 t250 x10_1 t258 true ((rd_T35 t250 x10_1).f0) ((rd_T35 t250 x10_1).f1) ((rd_T35 t250 x10_1).f2))) = some r := H
          have A45 := Aside0.mk A450
          clear A450
          have HC46 := Aside0.mk H
          clear H
          have hnb47 := NB257_247.out
          have hnc47 := NB247_257.out
          have hnb48 := NB257_248.out
          have hnc48 := NB248_257.out
          obtain ⟨hcz49_0, hcz49_1, hcz49_2⟩ := cz3 BK257
          obtain ⟨hfz49_0, hfz49_1, hfz49_2⟩ := fz3 BK257
          go_upto_region 14 with (first | ((with_reducible refine gate_callee (f := 12) rfl ?_); refine goesB (some 80) rfl rfl Try.func12 #[.slice A0 l0.length c0, .int .i64 ((rd_T35 t250 x10_1).f0)] rfl ?_; (with_reducible refine (fill_Ends.calls kj18 _ _ l0 ((rd_T35 t250 x10_1).f0) t258 t259 t260 _ ?side1 ?side2 A45.out).mono ?_); (case side1 => repeat (first | exact (Kd.C_below HR0.out HB.out) | (with_reducible refine Kd.C_alloc ?_ _) | (with_reducible refine Kd.C_drewN ?_ _) | (with_reducible refine Kd.C_drew ?_))); (case side2 => exact HC0.out); rintro e w50 ⟨v261, v263, rfl, ho0, ho1, hb⟩; refine ⟨_, rfl, ?_⟩; replace HO_7 := Aside0.mk (Kd.R_below (rx HO_7) hb); have HO262 := Aside0.mk (Kd.R_lower ho0 (below_size (bw HB))); have HO264 := Aside0.mk (Kd.R_lower ho1 (below_size (bw HB))); replace BK247 := bb BK247 hb; replace BK248 := bb BK248 hb; replace BK257 := bb BK257 hb; replace HB := bh HB hb; (try clear hb); (try clear hb2); (try clear hk); (try clear hi); (try clear ho0); (try clear ho1)))
          (try simp only [Act.put, List.setIfInBounds_toArray, List.set_cons_zero, List.set_cons_succ])
          go_cut [99] (fun v99 wc => ∃ (kq : Nat) (x99_45 : Bool), v99 = .bool x99_45 ∧ Aside0 (stickfullaw14_FillCovers.j2 kq l0 t250 x10_1 t258 x99_45 ((rd_T35 t250 x10_1).f0) ((rd_T35 t250 x10_1).f1) ((rd_T35 t250 x10_1).f2) = some r) ∧ Aside0 (kq ≤ kj18) ∧ Aside0 (Kd.R k35 35 wc w.heap.size (fun k_ => k_ ≠ gb257) (.slice (some ad256) t250.length co20) t250) ∧ Aside0 (Kd.R (Kd.int .i64) 3 wc w.heap.size (fun _ => True) v261 t258) ∧ Aside0 (wc.heap[gb247]? = some (.cells #[.int .i64 a1_0, .int .i64 a1_1] 24 (0, 0))) ∧ Aside0 (wc.heap[gb248]? = some (.cells #[.int .i64 a2_0, .int .i64 a2_1] 24 (0, 0))) ∧ Aside0 (wc.heap[gb257]? = some (.cells #[.int .i64 ((rd_T35 t250 x10_1).f0), .int .i64 ((rd_T35 t250 x10_1).f1), .bool ((rd_T35 t250 x10_1).f2)] 35 (0, 0))) ∧ Aside0 (Below w.heap.size w wc))
          case first =>
           have H := HC46.out
           clear HC46
           by_cases c51 : t260 = 0
           ·rw [if_pos c51] at H
            have c51b0 : (t260 == 0) = true := beq_iff_eq.mpr c51
            have c51b1 : (t260 != 0) = false := bne_eq_false_iff_eq.mpr c51
            clear c51
            (first | rw [c51b0] | (simp only [i64_w, i32_w]; rw [c51b0]) | skip)
            replace H := Option.bind_eq_some_iff.mp H
            obtain ⟨t265, A520, H⟩ := H
            replace H : (if t265 = true then (stickfullaw14_FillCovers.j2 kj18 l0 t250 x10_1 t258 false ((rd_T35 t250 x10_1).f0) ((rd_T35 t250 x10_1).f1) ((rd_T35 t250 x10_1).f2)) else ((stickfullaw14_has.f kj18 t259 ((rd_T35 t250 x10_1).f1)).bind fun t266 => (stickfullaw14_FillCovers.j2 kj18 l0 t250 x10_1 t258 (!t266) ((rd_T35 t250 x10_1).f0) ((rd_T35 t250 x10_1).f1) ((rd_T35 t250 x10_1).f2)))) = some r := H
            have A52 := Aside0.mk A520
            clear A520
            by_cases c53 : t265 = true
            ·subst c53
             have H1 : (stickfullaw14_FillCovers.j2 kj18 l0 t250 x10_1 t258 false ((rd_T35 t250 x10_1).f0) ((rd_T35 t250 x10_1).f1) ((rd_T35 t250 x10_1).f2)) = some r := by rw [if_pos rfl] at H; exact H
             clear H
             have H := H1
             clear H1
             have H' := Aside0.mk H
             clear H
             have hnb54 := NB257_247.out
             have hnc54 := NB247_257.out
             have hnb55 := NB257_248.out
             have hnc55 := NB248_257.out
             obtain ⟨hcz56_0, hcz56_1, hcz56_2⟩ := cz3 BK257
             obtain ⟨hfz56_0, hfz56_1, hfz56_2⟩ := fz3 BK257
             obtain ⟨Ao57, co57, eo57⟩ := Kd.R_slice HO262.out
             subst eo57
             go_wp2_with (first | (go_at_call 13; (with_reducible refine (stickfullaw14_has.calls kj18 _ _ t258 ((rd_T35 t250 x10_1).f1) true _ ?side1 ?side2 A52.out).mono ?_); (case side1 => repeat (first | exact (Kd.R_reads' HO262.out).2.2 | (with_reducible refine Kd.C_alloc ?_ _) | (with_reducible refine Kd.C_drewN ?_ _) | (with_reducible refine Kd.C_drew ?_))); (case side2 => exact (Kd.R_reads' HO262.out).2.1); rintro e w' ⟨rfl, ⟨nd, rfl⟩⟩))
             go_meet
             case rel => exact ⟨_, (false), (by first | rfl | (simp; done) | (simp [*]; done)), H', ⟨by have := HK1.out; have := HJ18.out; first | omega | exact Nat.le_refl _⟩, ⟨by (with_reducible repeat (first | apply Kd.R_alloc | apply Kd.R_drewN | apply Kd.R_drew)); exact HO_7.out⟩, ⟨by (with_reducible repeat (first | apply Kd.R_alloc | apply Kd.R_drewN | apply Kd.R_drew)); exact Kd.R_mono HO262.out (fun _ hk => trivial)⟩, ⟨by (with_reducible repeat (first | refine blk_drewN ?_ _ | refine blk_drew ?_ | refine blk_alloc ?_ _)); exact BK247.out⟩, ⟨by (with_reducible repeat (first | refine blk_drewN ?_ _ | refine blk_drew ?_ | refine blk_alloc ?_ _)); exact BK248.out⟩, ⟨by (with_reducible repeat (first | refine blk_drewN ?_ _ | refine blk_drew ?_ | refine blk_alloc ?_ _)); exact BK257.out⟩, ⟨by repeat (first | (with_reducible first | exact HB.out | apply below_alloc | apply pw_below_drewN | apply below_drew1 | refine below_set ?_ GE247.out | refine below_set ?_ GE248.out | refine below_set ?_ GE257.out) | exact HB.out)⟩⟩
            ·replace c53 := Bool.eq_false_iff.mpr c53
             subst c53
             have H1 : ((stickfullaw14_has.f kj18 t259 ((rd_T35 t250 x10_1).f1)).bind fun t266 => (stickfullaw14_FillCovers.j2 kj18 l0 t250 x10_1 t258 (!t266) ((rd_T35 t250 x10_1).f0) ((rd_T35 t250 x10_1).f1) ((rd_T35 t250 x10_1).f2))) = some r := by rw [if_neg (show ¬ (false = true) by decide)] at H; exact H
             clear H
             have H := H1
             clear H1
             replace H := Option.bind_eq_some_iff.mp H
             obtain ⟨t266, A580, H⟩ := H
             replace H : (stickfullaw14_FillCovers.j2 kj18 l0 t250 x10_1 t258 (!t266) ((rd_T35 t250 x10_1).f0) ((rd_T35 t250 x10_1).f1) ((rd_T35 t250 x10_1).f2)) = some r := H
             have A58 := Aside0.mk A580
             clear A580
             have H' := Aside0.mk H
             clear H
             have hnb59 := NB257_247.out
             have hnc59 := NB247_257.out
             have hnb60 := NB257_248.out
             have hnc60 := NB248_257.out
             obtain ⟨hcz61_0, hcz61_1, hcz61_2⟩ := cz3 BK257
             obtain ⟨hfz61_0, hfz61_1, hfz61_2⟩ := fz3 BK257
             obtain ⟨Ao62, co62, eo62⟩ := Kd.R_slice HO262.out
             subst eo62
             go_wp2_with (first | (go_at_call 13; (with_reducible refine (stickfullaw14_has.calls kj18 _ _ t258 ((rd_T35 t250 x10_1).f1) false _ ?side1 ?side2 A52.out).mono ?_); (case side1 => repeat (first | exact (Kd.R_reads' HO262.out).2.2 | (with_reducible refine Kd.C_alloc ?_ _) | (with_reducible refine Kd.C_drewN ?_ _) | (with_reducible refine Kd.C_drew ?_))); (case side2 => exact (Kd.R_reads' HO262.out).2.1); rintro e w' ⟨rfl, ⟨nd, rfl⟩⟩; obtain ⟨Ao63, co63, eo63⟩ := Kd.R_slice HO264.out; subst eo63) | (go_at_call 13; (with_reducible refine (stickfullaw14_has.calls kj18 _ _ t259 ((rd_T35 t250 x10_1).f1) t266 _ ?side1 ?side2 A58.out).mono ?_); (case side1 => repeat (first | exact (Kd.R_reads' HO264.out).2.2 | (with_reducible refine Kd.C_alloc ?_ _) | (with_reducible refine Kd.C_drewN ?_ _) | (with_reducible refine Kd.C_drew ?_))); (case side2 => exact (Kd.R_reads' HO264.out).2.1); rintro e w' ⟨rfl, ⟨nd, rfl⟩⟩))
             go_meet
             case rel => exact ⟨_, (!t266), (by first | rfl | (simp; done) | (simp [*]; done)), H', ⟨by have := HK1.out; have := HJ18.out; first | omega | exact Nat.le_refl _⟩, ⟨by (with_reducible repeat (first | apply Kd.R_alloc | apply Kd.R_drewN | apply Kd.R_drew)); exact HO_7.out⟩, ⟨by (with_reducible repeat (first | apply Kd.R_alloc | apply Kd.R_drewN | apply Kd.R_drew)); exact Kd.R_mono HO262.out (fun _ hk => trivial)⟩, ⟨by (with_reducible repeat (first | refine blk_drewN ?_ _ | refine blk_drew ?_ | refine blk_alloc ?_ _)); exact BK247.out⟩, ⟨by (with_reducible repeat (first | refine blk_drewN ?_ _ | refine blk_drew ?_ | refine blk_alloc ?_ _)); exact BK248.out⟩, ⟨by (with_reducible repeat (first | refine blk_drewN ?_ _ | refine blk_drew ?_ | refine blk_alloc ?_ _)); exact BK257.out⟩, ⟨by repeat (first | (with_reducible first | exact HB.out | apply below_alloc | apply pw_below_drewN | apply below_drew1 | refine below_set ?_ GE247.out | refine below_set ?_ GE248.out | refine below_set ?_ GE257.out) | exact HB.out)⟩⟩
           ·rw [if_neg c51] at H
            have c51b0 : (t260 == 0) = false := beq_eq_false_iff_ne.mpr c51
            have c51b1 : (t260 != 0) = true := bne_iff_ne.mpr c51
            (first | rw [c51b0] | (simp only [i64_w, i32_w]; rw [c51b0]) | skip)
            have H' := Aside0.mk H
            clear H
            go_wp2
            go_meet
            case rel => exact ⟨_, (true), (by first | rfl | (simp; done) | (simp [*]; done)), H', ⟨by have := HK1.out; have := HJ18.out; first | omega | exact Nat.le_refl _⟩, ⟨by (with_reducible repeat (first | apply Kd.R_alloc | apply Kd.R_drewN | apply Kd.R_drew)); exact HO_7.out⟩, ⟨by (with_reducible repeat (first | apply Kd.R_alloc | apply Kd.R_drewN | apply Kd.R_drew)); exact Kd.R_mono HO262.out (fun _ hk => trivial)⟩, ⟨by (with_reducible repeat (first | refine blk_drewN ?_ _ | refine blk_drew ?_ | refine blk_alloc ?_ _)); exact BK247.out⟩, ⟨by (with_reducible repeat (first | refine blk_drewN ?_ _ | refine blk_drew ?_ | refine blk_alloc ?_ _)); exact BK248.out⟩, ⟨by (with_reducible repeat (first | refine blk_drewN ?_ _ | refine blk_drew ?_ | refine blk_alloc ?_ _)); exact BK257.out⟩, ⟨by repeat (first | (with_reducible first | exact HB.out | apply below_alloc | apply pw_below_drewN | apply below_drew1 | refine below_set ?_ GE247.out | refine below_set ?_ GE248.out | refine below_set ?_ GE257.out) | exact HB.out)⟩⟩
          case rest =>
           clear HC46
           try clear c1
           try clear c2
           try clear p2
           try clear q2
           try clear hx2
           try clear c3
           try clear c4
           try clear c4b0
           try clear c4b1
           try clear c5
           try clear c6
           try clear p6
           try clear c8
           try clear c9
           try clear c10
           try clear c10b0
           try clear c10b1
           try clear c12
           try clear c13
           try clear c17
           try clear c17b0
           try clear c18
           try clear c18b0
           try clear c22
           try clear c23
           try clear c25
           try clear c25b0
           try clear c25b1
           try clear p25
           try clear q25
           try clear hx25
           try clear c26
           try clear c26b0
           try clear c27
           try clear c28
           try clear c30
           try clear c30b0
           try clear c31
           try clear c32
           try clear c34
           try clear c34b0
           try clear c35
           try clear c36
           try clear c38
           try clear c39
           try clear c41
           try clear c42
           try clear c44
           try clear c47
           try clear c48
           try clear c51
           try clear c51b0
           try clear c51b1
           try clear c53
           try clear c54
           try clear c55
           try clear c59
           try clear c60
           try clear hcz14_0
           try clear hcz14_1
           try clear hcz15_0
           try clear hcz15_1
           try clear hcz24_0
           try clear hcz24_1
           try clear hcz24_2
           try clear hcz29_0
           try clear hcz29_1
           try clear hcz29_2
           try clear hcz33_0
           try clear hcz33_1
           try clear hcz33_2
           try clear hcz37_0
           try clear hcz37_1
           try clear hcz37_2
           try clear hcz40_0
           try clear hcz40_1
           try clear hcz40_2
           try clear hcz43_0
           try clear hcz43_1
           try clear hcz43_2
           try clear hcz49_0
           try clear hcz49_1
           try clear hcz49_2
           try clear hcz56_0
           try clear hcz56_1
           try clear hcz56_2
           try clear hcz61_0
           try clear hcz61_1
           try clear hcz61_2
           try clear hfz14_0
           try clear hfz14_1
           try clear hfz15_0
           try clear hfz15_1
           try clear hfz24_0
           try clear hfz24_1
           try clear hfz24_2
           try clear hfz29_0
           try clear hfz29_1
           try clear hfz29_2
           try clear hfz33_0
           try clear hfz33_1
           try clear hfz33_2
           try clear hfz37_0
           try clear hfz37_1
           try clear hfz37_2
           try clear hfz40_0
           try clear hfz40_1
           try clear hfz40_2
           try clear hfz43_0
           try clear hfz43_1
           try clear hfz43_2
           try clear hfz49_0
           try clear hfz49_1
           try clear hfz49_2
           try clear hfz56_0
           try clear hfz56_1
           try clear hfz56_2
           try clear hfz61_0
           try clear hfz61_1
           try clear hfz61_2
           try clear hx256_0
           try clear hx256_1
           try clear hx256_2
           try clear p2
           try clear p25
           try clear p256
           try clear p6
           try clear q2
           try clear q25
           try clear q256
           obtain ⟨kq, x99_45, rfl, HA, HJ45, HO_7, HO_12, BK247, BK248, BK257, HB⟩ := hcut
           cases kq with
           | zero => exact absurd HA.out (by simp [stickfullaw14_FillCovers.j2])
           | succ kj45 =>
            have H := HA.out
            clear HA
            simp only [stickfullaw14_FillCovers.j2] at H
            by_cases c64 : x99_45 = true
            ·subst c64
             have H1 : (some false) = some r := by rw [if_pos rfl] at H; exact H
             clear H
             have H := H1
             clear H1
             exact absurd ((Option.some.inj H).trans HR_.out) (by decide)
            ·replace c64 := Bool.eq_false_iff.mpr c64
             subst c64
             have H1 : (if (wrap64 (x10_1 + 1)) < (t250.length : Int) then (if ((rd_T35 t250 x10_1).f2) = true then (if 0 ≤ (wrap64 ((t258.length : Int) - 1)) then (if (wrap64 ((t258.length : Int) - 1)) < (t258.length : Int) then (if ((rd_T35 t250 x10_1).f1) = (rd t258 (wrap64 ((t258.length : Int) - 1))) then (if (wrap64 (x10_1 + 1)) = (t250.length : Int) then (some false) else (stickfullaw14_FillCovers.l0 kj45 l0 t250 ((rd_T35 t250 x10_1).f1) (wrap64 (x10_1 + 1)))) else (some false)) else (none)) else (none)) else (if 0 ≤ ((rd_T35 t250 x10_1).f0) then (if ((rd_T35 t250 x10_1).f0) ≤ ((rd_T35 t250 x10_1).f1) then (if ((rd_T35 t250 x10_1).f1) ≤ (l0.length : Int) then ((trim_Blank.f kj45 ((l0.take (((rd_T35 t250 x10_1).f1) : Int).toNat).drop (((rd_T35 t250 x10_1).f0) : Int).toNat)).bind fun t272 => (if t272 = true then (some false) else (if (wrap64 (x10_1 + 1)) = (t250.length : Int) then (stickfullaw14_FillCovers.l0 kj45 l0 t250 ((rd_T35 t250 x10_1).f1) (wrap64 (x10_1 + 1))) else (stickfullaw14_FillCovers.l0 kj45 l0 t250 ((rd_T35 t250 x10_1).f1) (wrap64 (x10_1 + 1)))))) else (none)) else (none)) else (none))) else (if ((rd_T35 t250 x10_1).f2) = true then (if 0 ≤ (wrap64 ((t258.length : Int) - 1)) then (if (wrap64 ((t258.length : Int) - 1)) < (t258.length : Int) then (if ((rd_T35 t250 x10_1).f1) = (rd t258 (wrap64 ((t258.length : Int) - 1))) then (if (wrap64 (x10_1 + 1)) = (t250.length : Int) then (some false) else (stickfullaw14_FillCovers.l0 kj45 l0 t250 ((rd_T35 t250 x10_1).f1) (wrap64 (x10_1 + 1)))) else (some false)) else (none)) else (none)) else (if (wrap64 (x10_1 + 1)) = (t250.length : Int) then (stickfullaw14_FillCovers.l0 kj45 l0 t250 ((rd_T35 t250 x10_1).f1) (wrap64 (x10_1 + 1))) else (stickfullaw14_FillCovers.l0 kj45 l0 t250 ((rd_T35 t250 x10_1).f1) (wrap64 (x10_1 + 1)))))) = some r := by rw [if_neg (show ¬ (false = true) by decide)] at H; exact H
             clear H
             have H := H1
             clear H1
             by_cases c65 : (wrap64 (x10_1 + 1)) < (t250.length : Int)
             ·rw [if_pos c65] at H
              have c65b0 : decide ((wrap64 (x10_1 + 1)) < (t250.length : Int)) = true := decide_eq_true c65
              clear c65
              by_cases c66 : ((rd_T35 t250 x10_1).f2) = true
              ·rw [if_pos c66] at H
               have c66b0 : ((rd_T35 t250 x10_1).f2) = true := c66
               clear c66
               obtain ⟨ji67, hji67⟩ : ∃ j_ : Int, (wrap64 ((t258.length : Int) - 1)) = j_ := ⟨_, rfl⟩
               replace H : (if 0 ≤ (ji67) then (if (ji67) < (t258.length : Int) then (if ((rd_T35 t250 x10_1).f1) = (rd t258 (ji67)) then (if (wrap64 (x10_1 + 1)) = (t250.length : Int) then (some false) else (stickfullaw14_FillCovers.l0 kj45 l0 t250 ((rd_T35 t250 x10_1).f1) (wrap64 (x10_1 + 1)))) else (some false)) else (none)) else (none)) = some r := by first | (rw [hji67] at H; exact H) | (simp only [hji67] at H ⊢; exact H)
               have hji67w : (IntKind.i64.wrap ((t258.length : Int) - 1)) = ji67 := (i64_w _).trans hji67
               by_cases c68 : 0 ≤ (ji67)
               ·rw [if_pos c68] at H
                have c68b0 : decide (0 ≤ (ji67)) = true := decide_eq_true c68
                clear c68
                by_cases c69 : (ji67) < (t258.length : Int)
                ·rw [if_pos c69] at H
                 have c69b0 : decide ((ji67) < (t258.length : Int)) = true := decide_eq_true c69
                 clear c69
                 by_cases c70 : ((rd_T35 t250 x10_1).f1) = (rd t258 (ji67))
                 ·rw [if_pos c70] at H
                  have c70b0 : (((rd_T35 t250 x10_1).f1) == (rd t258 (ji67))) = true := beq_iff_eq.mpr c70
                  have c70b1 : (((rd_T35 t250 x10_1).f1) != (rd t258 (ji67))) = false := bne_eq_false_iff_eq.mpr c70
                  clear c70
                  by_cases c71 : (wrap64 (x10_1 + 1)) = (t250.length : Int)
                  ·rw [if_pos c71] at H
                   have c71b0 : ((wrap64 (x10_1 + 1)) == (t250.length : Int)) = true := beq_iff_eq.mpr c71
                   have c71b1 : ((wrap64 (x10_1 + 1)) != (t250.length : Int)) = false := bne_eq_false_iff_eq.mpr c71
                   clear c71
                   exact absurd ((Option.some.inj H).trans HR_.out) (by decide)
                  ·rw [if_neg c71] at H
                   have c71b0 : ((wrap64 (x10_1 + 1)) == (t250.length : Int)) = false := beq_eq_false_iff_ne.mpr c71
                   have c71b1 : ((wrap64 (x10_1 + 1)) != (t250.length : Int)) = true := bne_iff_ne.mpr c71
                   have H' := Aside0.mk H
                   clear H
                   try go_wp2
                   replace HO_7 := Aside0.mk (Kd.R_drew HO_7.out)
                   replace HO_12 := Aside0.mk (Kd.R_drew HO_12.out)
                   replace BK247 := Aside0.mk (blk_drew BK247.out)
                   replace BK248 := Aside0.mk (blk_drew BK248.out)
                   replace BK257 := Aside0.mk (blk_drew BK257.out)
                   replace HB := Aside0.mk (below_drew1 HB.out)
                   obtain ⟨Ao73, co73, eo73⟩ := Kd.R_slice HO_12.out
                   (first | subst eo73 | (injection eo73 with f1_ f2_ f3_; have f4_ := f1_.symm; have f5_ := f3_.symm; clear f1_ f2_ f3_; subst f4_; subst f5_))
                   have p267 : 0 ≤ ((ji67) : Int) := of_decide_eq_true (by first | (with_reducible assumption) | assumption)
                   have q267 : (ji67) < (t258.length : Int) := of_decide_eq_true (by first | (with_reducible assumption) | assumption)
                   obtain ⟨ad267, e267, hx267_0⟩ := Kd.at_int (Kd.R_reads' HO_12.out).2.2 (ji67) p267 q267
                   cases e267
                   replace p267 := eq_true p267
                   replace q267 := eq_true q267
                   refine start_ (n := 45) (S := fun w' => w'.cell? ⟨gb257, 0, none⟩ = some (.int .i64 ((rd_T35 t250 x10_1).f0)) ∧ w'.cell? ⟨gb257, 1, none⟩ = some (.int .i64 ((rd_T35 t250 x10_1).f1)) ∧ w'.cell? ⟨gb257, 2, none⟩ = some (.bool ((rd_T35 t250 x10_1).f2)) ∧ w'.cell? (ad267.add ((ji67)).toNat) = some (.int .i64 (rd t258 (ji67)))) (ds := []) (stickfullaw14_FillCovers.bm 45 0) (by kernel_rfl) rfl rfl ⟨bc BK257 0, bc BK257 1, bc BK257 2, hx267_0⟩ (fun hHeld => ?_); refine with_tabW stickfullaw14_FillCovers.tab16 stickfullaw14_FillCovers.bits16 (fun HT_ HW_ => ?_)
                   generalize wc.drew = w72 at HO_7 HO_12 BK247 BK248 BK257 HB hx267_0 hHeld ⊢
                   refine pure_ (i := 0) (N := some 100) (v := ?_) (a' := ?_) (stickfullaw14_FillCovers.bm 45 1) rfl rfl (any_of HT_.out (by kernel_rfl)) (fun _ _ _ h => h) (Or.inl ⟨by rfl, ?_⟩) ?_ ?_
                   rotate_left; (focus intro w'; go_simp; with_reducible rfl); rotate_left; (focus simp only [Act.put, List.setIfInBounds_toArray, List.set_cons_zero, List.set_cons_succ, i64_w, i32_w]; rfl)
                   refine pure_ (i := 1) (N := some 101) (v := ?_) (a' := ?_) (stickfullaw14_FillCovers.bm 45 3) rfl rfl (any_of HT_.out (by kernel_rfl)) (fun _ _ _ h => h) (Or.inl ⟨by rfl, ?_⟩) ?_ ?_
                   rotate_left; (focus intro w'; go_simp; with_reducible rfl); rotate_left; (focus simp only [Act.put, List.setIfInBounds_toArray, List.set_cons_zero, List.set_cons_succ, i64_w, i32_w]; rfl)
                   refine pure_ (i := 2) (N := some 102) (v := ?_) (a' := ?_) (stickfullaw14_FillCovers.bm 45 7) rfl rfl (any_of HT_.out (by kernel_rfl)) (fun _ _ _ h => h) (Or.inl ⟨by rfl, ?_⟩) ?_ ?_
                   rotate_left; (focus intro w'; go_simp; with_reducible rfl); rotate_left; (focus simp only [Act.put, List.setIfInBounds_toArray, List.set_cons_zero, List.set_cons_succ, i64_w, i32_w]; rfl)
                   refine pure_ (i := 3) (N := some 103) (v := ?_) (a' := ?_) (stickfullaw14_FillCovers.bm 45 15) rfl rfl (any_of HT_.out (by kernel_rfl)) (fun _ _ _ h => h) (Or.inl ⟨by rfl, ?_⟩) ?_ ?_
                   rotate_left; (focus intro w'; go_simp; with_reducible rfl); rotate_left; (focus simp only [Act.put, List.setIfInBounds_toArray, List.set_cons_zero, List.set_cons_succ, i64_w, i32_w]; rfl)
                   refine pure_ (i := 4) (N := some 104) (v := ?_) (a' := ?_) (stickfullaw14_FillCovers.bm 45 31) rfl rfl (any_of HT_.out (by kernel_rfl)) (fun _ _ _ h => h) (Or.inl ⟨by rfl, ?_⟩) ?_ ?_
                   rotate_left; (focus intro w'; go_simp; with_reducible rfl); rotate_left; (focus simp only [Act.put, List.setIfInBounds_toArray, List.set_cons_zero, List.set_cons_succ, i64_w, i32_w]; rfl)
                   refine pure_ (i := 5) (N := some 105) (v := ?_) (a' := ?_) (stickfullaw14_FillCovers.bm 45 63) rfl rfl (any_of HT_.out (by kernel_rfl)) (fun _ _ _ h => h) (Or.inl ⟨by rfl, ?_⟩) ?_ ?_
                   rotate_left; (focus intro w'; go_simp; with_reducible rfl); rotate_left; (focus simp only [Act.put, List.setIfInBounds_toArray, List.set_cons_zero, List.set_cons_succ, i64_w, i32_w]; rfl)
                   refine pure_ (i := 6) (N := some 106) (v := ?_) (a' := ?_) (stickfullaw14_FillCovers.bm 45 127) rfl rfl (any_of HT_.out (by kernel_rfl)) (fun _ _ _ h => h) (Or.inl ⟨by rfl, ?_⟩) ?_ ?_
                   rotate_left; (focus intro w'; go_simp; with_reducible rfl); rotate_left; (focus simp only [Act.put, List.setIfInBounds_toArray, List.set_cons_zero, List.set_cons_succ, i64_w, i32_w]; rfl)
                   refine take_ (i := 7) (N := some 107) (v := ?_) (a' := ?_) (stickfullaw14_FillCovers.bm 45 255) rfl rfl (take_ofW HT_.out HW_.out (by kernel_rfl)) (fun _ _ _ h => h) (Or.inl ⟨by rfl, ?_⟩) hHeld ?_ ?_
                   rotate_left; (focus rintro w' ⟨s0, s1, s2, s3⟩; go_simp; with_reducible rfl); rotate_left; (focus simp only [Act.put, List.setIfInBounds_toArray, List.set_cons_zero, List.set_cons_succ, i64_w, i32_w]; rfl)
                   refine pure_ (i := 8) (N := some 108) (v := ?_) (a' := ?_) (stickfullaw14_FillCovers.bm 45 511) rfl rfl (any_of HT_.out (by kernel_rfl)) (fun _ _ _ h => h) (Or.inl ⟨by rfl, ?_⟩) ?_ ?_
                   rotate_left; (focus intro w'; go_simp; with_reducible rfl); rotate_left; (focus simp only [Act.put, List.setIfInBounds_toArray, List.set_cons_zero, List.set_cons_succ, i64_w, i32_w]; rfl)
                   refine pure_ (i := 9) (N := some 109) (v := ?_) (a' := ?_) (stickfullaw14_FillCovers.bm 45 1023) rfl rfl (any_of HT_.out (by kernel_rfl)) (fun _ _ _ h => h) (Or.inl ⟨by rfl, ?_⟩) ?_ ?_
                   rotate_left; (focus intro w'; go_simp; with_reducible rfl); rotate_left; (focus simp only [Act.put, List.setIfInBounds_toArray, List.set_cons_zero, List.set_cons_succ, i64_w, i32_w]; rfl)
                   refine pure_ (i := 10) (N := some 110) (v := ?_) (a' := ?_) (stickfullaw14_FillCovers.bm 45 2047) rfl rfl (any_of HT_.out (by kernel_rfl)) (fun _ _ _ h => h) (Or.inl ⟨by rfl, ?_⟩) ?_ ?_
                   rotate_left; (focus intro w'; go_simp; with_reducible rfl); rotate_left; (focus simp only [Act.put, List.setIfInBounds_toArray, List.set_cons_zero, List.set_cons_succ, i64_w, i32_w]; rfl)
                   refine pure_ (i := 11) (N := some 111) (v := undef) (a' := ?_) (stickfullaw14_FillCovers.bm 45 4095) rfl rfl (any_of HT_.out (by kernel_rfl)) (fun _ _ _ h => h) (Or.inr ⟨by rfl, rfl⟩) ?_ ?_
                   rotate_left; (focus simp only [Act.put, List.setIfInBounds_toArray, List.set_cons_zero, List.set_cons_succ, i64_w, i32_w]; rfl)
                   refine pure_ (i := 12) (N := some 112) (v := undef) (a' := ?_) (stickfullaw14_FillCovers.bm 45 8191) rfl rfl (any_of HT_.out (by kernel_rfl)) (fun _ _ _ h => h) (Or.inr ⟨by rfl, rfl⟩) ?_ ?_
                   rotate_left; (focus simp only [Act.put, List.setIfInBounds_toArray, List.set_cons_zero, List.set_cons_succ, i64_w, i32_w]; rfl)
                   refine pure_ (i := 13) (N := some 113) (v := undef) (a' := ?_) (stickfullaw14_FillCovers.bm 45 16383) rfl rfl (any_of HT_.out (by kernel_rfl)) (fun _ _ _ h => h) (Or.inr ⟨by rfl, rfl⟩) ?_ ?_
                   rotate_left; (focus simp only [Act.put, List.setIfInBounds_toArray, List.set_cons_zero, List.set_cons_succ, i64_w, i32_w]; rfl)
                   refine pure_ (i := 14) (N := some 114) (v := undef) (a' := ?_) (stickfullaw14_FillCovers.bm 45 32767) rfl rfl (any_of HT_.out (by kernel_rfl)) (fun _ _ _ h => h) (Or.inr ⟨by rfl, rfl⟩) ?_ ?_
                   rotate_left; (focus simp only [Act.put, List.setIfInBounds_toArray, List.set_cons_zero, List.set_cons_succ, i64_w, i32_w]; rfl)
                   refine pure_ (i := 15) (N := some 115) (v := undef) (a' := ?_) (stickfullaw14_FillCovers.bm 45 65535) rfl rfl (any_of HT_.out (by kernel_rfl)) (fun _ _ _ h => h) (Or.inr ⟨by rfl, rfl⟩) ?_ ?_
                   rotate_left; (focus simp only [Act.put, List.setIfInBounds_toArray, List.set_cons_zero, List.set_cons_succ, i64_w, i32_w]; rfl)
                   refine pure_ (i := 16) (N := some 116) (v := undef) (a' := ?_) (stickfullaw14_FillCovers.bm 45 131071) rfl rfl (any_of HT_.out (by kernel_rfl)) (fun _ _ _ h => h) (Or.inr ⟨by rfl, rfl⟩) ?_ ?_
                   rotate_left; (focus simp only [Act.put, List.setIfInBounds_toArray, List.set_cons_zero, List.set_cons_succ, i64_w, i32_w]; rfl)
                   refine pure_ (i := 17) (N := some 117) (v := undef) (a' := ?_) (stickfullaw14_FillCovers.bm 45 262143) rfl rfl (any_of HT_.out (by kernel_rfl)) (fun _ _ _ h => h) (Or.inr ⟨by rfl, rfl⟩) ?_ ?_
                   rotate_left; (focus simp only [Act.put, List.setIfInBounds_toArray, List.set_cons_zero, List.set_cons_succ, i64_w, i32_w]; rfl)
                   refine pure_ (i := 18) (N := some 118) (v := ?_) (a' := ?_) (stickfullaw14_FillCovers.bm 45 524287) rfl rfl (any_of HT_.out (by kernel_rfl)) (fun _ _ _ h => h) (Or.inl ⟨by rfl, ?_⟩) ?_ ?_
                   rotate_left; (focus intro w'; go_simp; with_reducible rfl); rotate_left; (focus simp only [Act.put, List.setIfInBounds_toArray, List.set_cons_zero, List.set_cons_succ, i64_w, i32_w]; rfl)
                   refine pure_ (i := 19) (N := some 119) (v := ?_) (a' := ?_) (stickfullaw14_FillCovers.bm 45 1048575) rfl rfl (any_of HT_.out (by kernel_rfl)) (fun _ _ _ h => h) (Or.inl ⟨by rfl, ?_⟩) ?_ ?_
                   rotate_left; (focus intro w'; go_simp; with_reducible rfl); rotate_left; (focus simp only [Act.put, List.setIfInBounds_toArray, List.set_cons_zero, List.set_cons_succ, i64_w, i32_w]; rfl)
                   refine pure_ (i := 20) (N := some 120) (v := ?_) (a' := ?_) (stickfullaw14_FillCovers.bm 45 2097151) rfl rfl (any_of HT_.out (by kernel_rfl)) (fun _ _ _ h => h) (Or.inl ⟨by rfl, ?_⟩) ?_ ?_
                   rotate_left; (focus intro w'; go_simp; with_reducible rfl); rotate_left; (focus simp only [Act.put, List.setIfInBounds_toArray, List.set_cons_zero, List.set_cons_succ, i64_w, i32_w]; rfl)
                   refine take_ (i := 21) (N := some 121) (v := ?_) (a' := ?_) (stickfullaw14_FillCovers.bm 45 4194303) rfl rfl (take_ofW HT_.out HW_.out (by kernel_rfl)) (fun _ _ _ h => h) (Or.inl ⟨by rfl, ?_⟩) hHeld ?_ ?_
                   rotate_left; (focus rintro w' ⟨s0, s1, s2, s3⟩; go_simp; with_reducible rfl); rotate_left; (focus simp only [Act.put, List.setIfInBounds_toArray, List.set_cons_zero, List.set_cons_succ, i64_w, i32_w]; rfl)
                   refine pure_ (i := 22) (N := some 122) (v := ?_) (a' := ?_) (stickfullaw14_FillCovers.bm 45 8388607) rfl rfl (any_of HT_.out (by kernel_rfl)) (fun _ _ _ h => h) (Or.inl ⟨by rfl, ?_⟩) ?_ ?_
                   rotate_left; (focus intro w'; go_simp; with_reducible rfl); rotate_left; (focus simp only [Act.put, List.setIfInBounds_toArray, List.set_cons_zero, List.set_cons_succ, i64_w, i32_w]; rfl)
                   refine pure_ (i := 23) (N := some 123) (v := ?_) (a' := ?_) (stickfullaw14_FillCovers.bm 45 16777215) rfl rfl (any_of HT_.out (by kernel_rfl)) (fun _ _ _ h => h) (Or.inl ⟨by rfl, ?_⟩) ?_ ?_
                   rotate_left; (focus intro w'; go_simp; with_reducible rfl); rotate_left; (focus simp only [Act.put, List.setIfInBounds_toArray, List.set_cons_zero, List.set_cons_succ, i64_w, i32_w]; rfl)
                   refine pure_ (i := 25) (N := some 125) (v := ?_) (a' := ?_) (stickfullaw14_FillCovers.bm 45 50331647) rfl rfl (any_of HT_.out (by kernel_rfl)) (fun _ _ _ h => h) (Or.inl ⟨by rfl, ?_⟩) ?_ ?_
                   rotate_left; (focus intro w'; go_simp; with_reducible rfl); rotate_left; (focus simp only [Act.put, List.setIfInBounds_toArray, List.set_cons_zero, List.set_cons_succ, i64_w, i32_w]; rfl)
                   refine pure_ (i := 26) (N := some 126) (v := ?_) (a' := ?_) (stickfullaw14_FillCovers.bm 45 117440511) rfl rfl (any_of HT_.out (by kernel_rfl)) (fun _ _ _ h => h) (Or.inl ⟨by rfl, ?_⟩) ?_ ?_
                   rotate_left; (focus intro w'; go_simp; with_reducible rfl); rotate_left; (focus simp only [Act.put, List.setIfInBounds_toArray, List.set_cons_zero, List.set_cons_succ, i64_w, i32_w]; rfl)
                   refine pure_ (i := 27) (N := some 127) (v := ?_) (a' := ?_) (stickfullaw14_FillCovers.bm 45 251658239) rfl rfl (any_of HT_.out (by kernel_rfl)) (fun _ _ _ h => h) (Or.inl ⟨by rfl, ?_⟩) ?_ ?_
                   rotate_left; (focus intro w'; go_simp; with_reducible rfl); rotate_left; (focus simp only [Act.put, List.setIfInBounds_toArray, List.set_cons_zero, List.set_cons_succ, i64_w, i32_w]; rfl)
                   refine pure_ (i := 28) (N := some 128) (v := ?_) (a' := ?_) (stickfullaw14_FillCovers.bm 45 520093695) rfl rfl (any_of HT_.out (by kernel_rfl)) (fun _ _ _ h => h) (Or.inl ⟨by rfl, ?_⟩) ?_ ?_
                   rotate_left; (focus intro w'; go_simp; with_reducible rfl); rotate_left; (focus simp only [Act.put, List.setIfInBounds_toArray, List.set_cons_zero, List.set_cons_succ, i64_w, i32_w]; rfl)
                   refine pure_ (i := 29) (N := some 129) (v := ?_) (a' := ?_) (stickfullaw14_FillCovers.bm 45 1056964607) rfl rfl (any_of HT_.out (by kernel_rfl)) (fun _ _ _ h => h) (Or.inl ⟨by rfl, ?_⟩) ?_ ?_
                   rotate_left; (focus intro w'; go_simp; with_reducible rfl); rotate_left; (focus simp only [Act.put, List.setIfInBounds_toArray, List.set_cons_zero, List.set_cons_succ, i64_w, i32_w]; rfl)
                   refine take_ (i := 24) (N := some 124) (v := ?_) (a' := ?_) (stickfullaw14_FillCovers.bm 45 1073741823) rfl rfl (take_ofW HT_.out HW_.out (by kernel_rfl)) (fun _ _ _ h => h) (Or.inl ⟨by rfl, ?_⟩) hHeld ?_ ?_
                   rotate_left; (focus rintro w' ⟨s0, s1, s2, s3⟩; go_simp; with_reducible rfl); rotate_left; (focus simp only [Act.put, List.setIfInBounds_toArray, List.set_cons_zero, List.set_cons_succ, i64_w, i32_w]; rfl)
                   refine take_ (i := 30) (N := some 130) (v := ?_) (a' := ?_) (stickfullaw14_FillCovers.bm 45 2147483647) rfl rfl (take_ofW HT_.out HW_.out (by kernel_rfl)) (fun _ _ _ h => h) (Or.inl ⟨by rfl, ?_⟩) hHeld ?_ ?_
                   rotate_left; (focus rintro w' ⟨s0, s1, s2, s3⟩; go_simp; with_reducible rfl); rotate_left; (focus simp only [Act.put, List.setIfInBounds_toArray, List.set_cons_zero, List.set_cons_succ, i64_w, i32_w]; rfl)
                   refine pure_ (i := 31) (N := some 131) (v := ?_) (a' := ?_) (stickfullaw14_FillCovers.bm 45 4294967295) rfl rfl (any_of HT_.out (by kernel_rfl)) (fun _ _ _ h => h) (Or.inl ⟨by rfl, ?_⟩) ?_ ?_
                   rotate_left; (focus intro w'; go_simp; with_reducible rfl); rotate_left; (focus simp only [Act.put, List.setIfInBounds_toArray, List.set_cons_zero, List.set_cons_succ, i64_w, i32_w]; rfl)
                   refine pure_ (i := 32) (N := some 132) (v := ?_) (a' := ?_) (stickfullaw14_FillCovers.bm 45 8589934591) rfl rfl (any_of HT_.out (by kernel_rfl)) (fun _ _ _ h => h) (Or.inl ⟨by rfl, ?_⟩) ?_ ?_
                   rotate_left; (focus intro w'; go_simp; with_reducible rfl); rotate_left; (focus simp only [Act.put, List.setIfInBounds_toArray, List.set_cons_zero, List.set_cons_succ, i64_w, i32_w]; rfl)
                   refine pure_ (i := 33) (N := some 133) (v := ?_) (a' := ?_) (stickfullaw14_FillCovers.bm 45 17179869183) rfl rfl (any_of HT_.out (by kernel_rfl)) (fun _ _ _ h => h) (Or.inl ⟨by rfl, ?_⟩) ?_ ?_
                   rotate_left; (focus intro w'; go_simp; with_reducible rfl); rotate_left; (focus simp only [Act.put, List.setIfInBounds_toArray, List.set_cons_zero, List.set_cons_succ, i64_w, i32_w]; rfl)
                   refine pure_ (i := 34) (N := some 134) (v := ?_) (a' := ?_) (stickfullaw14_FillCovers.bm 45 34359738367) rfl rfl (any_of HT_.out (by kernel_rfl)) (fun _ _ _ h => h) (Or.inl ⟨by rfl, ?_⟩) ?_ ?_
                   rotate_left; (focus intro w'; go_simp; with_reducible rfl); rotate_left; (focus simp only [Act.put, List.setIfInBounds_toArray, List.set_cons_zero, List.set_cons_succ, i64_w, i32_w]; rfl)
                   refine pure_ (i := 35) (N := some 135) (v := ?_) (a' := ?_) (stickfullaw14_FillCovers.bm 45 68719476735) rfl rfl (any_of HT_.out (by kernel_rfl)) (fun _ _ _ h => h) (Or.inl ⟨by rfl, ?_⟩) ?_ ?_
                   rotate_left; (focus intro w'; go_simp; with_reducible rfl); rotate_left; (focus simp only [Act.put, List.setIfInBounds_toArray, List.set_cons_zero, List.set_cons_succ, i64_w, i32_w]; rfl)
                   refine pure_ (i := 36) (N := some 136) (v := ?_) (a' := ?_) (stickfullaw14_FillCovers.bm 45 137438953471) rfl rfl (any_of HT_.out (by kernel_rfl)) (fun _ _ _ h => h) (Or.inl ⟨by rfl, ?_⟩) ?_ ?_
                   rotate_left; (focus intro w'; go_simp; with_reducible rfl); rotate_left; (focus simp only [Act.put, List.setIfInBounds_toArray, List.set_cons_zero, List.set_cons_succ, i64_w, i32_w]; rfl)
                   refine pure_ (i := 37) (N := some 137) (v := ?_) (a' := ?_) (stickfullaw14_FillCovers.bm 45 274877906943) rfl rfl (any_of HT_.out (by kernel_rfl)) (fun _ _ _ h => h) (Or.inl ⟨by rfl, ?_⟩) ?_ ?_
                   rotate_left; (focus intro w'; go_simp; with_reducible rfl); rotate_left; (focus simp only [Act.put, List.setIfInBounds_toArray, List.set_cons_zero, List.set_cons_succ, i64_w, i32_w]; rfl)
                   refine pure_ (i := 38) (N := some 138) (v := ?_) (a' := ?_) (stickfullaw14_FillCovers.bm 45 549755813887) rfl rfl (any_of HT_.out (by kernel_rfl)) (fun _ _ _ h => h) (Or.inl ⟨by rfl, ?_⟩) ?_ ?_
                   rotate_left; (focus intro w'; go_simp; with_reducible rfl); rotate_left; (focus simp only [Act.put, List.setIfInBounds_toArray, List.set_cons_zero, List.set_cons_succ, i64_w, i32_w]; rfl)
                   refine pure_ (i := 39) (N := some 139) (v := ?_) (a' := ?_) (stickfullaw14_FillCovers.bm 45 1099511627775) rfl rfl (any_of HT_.out (by kernel_rfl)) (fun _ _ _ h => h) (Or.inl ⟨by rfl, ?_⟩) ?_ ?_
                   rotate_left; (focus intro w'; go_simp; with_reducible rfl); rotate_left; (focus simp only [Act.put, List.setIfInBounds_toArray, List.set_cons_zero, List.set_cons_succ, i64_w, i32_w]; rfl)
                   refine pure_ (i := 40) (N := some 140) (v := ?_) (a' := ?_) (stickfullaw14_FillCovers.bm 45 2199023255551) rfl rfl (any_of HT_.out (by kernel_rfl)) (fun _ _ _ h => h) (Or.inl ⟨by rfl, ?_⟩) ?_ ?_
                   rotate_left; (focus intro w'; go_simp; with_reducible rfl); rotate_left; (focus simp only [Act.put, List.setIfInBounds_toArray, List.set_cons_zero, List.set_cons_succ, i64_w, i32_w]; rfl)
                   refine pure_ (i := 41) (N := some 141) (v := undef) (a' := ?_) (stickfullaw14_FillCovers.bm 45 4398046511103) rfl rfl (any_of HT_.out (by kernel_rfl)) (fun _ _ _ h => h) (Or.inr ⟨by rfl, rfl⟩) ?_ ?_
                   rotate_left; (focus simp only [Act.put, List.setIfInBounds_toArray, List.set_cons_zero, List.set_cons_succ, i64_w, i32_w]; rfl)
                   refine pure_ (i := 42) (N := some 142) (v := undef) (a' := ?_) (stickfullaw14_FillCovers.bm 45 8796093022207) rfl rfl (any_of HT_.out (by kernel_rfl)) (fun _ _ _ h => h) (Or.inr ⟨by rfl, rfl⟩) ?_ ?_
                   rotate_left; (focus simp only [Act.put, List.setIfInBounds_toArray, List.set_cons_zero, List.set_cons_succ, i64_w, i32_w]; rfl)
                   refine pure_ (i := 43) (N := some 143) (v := ?_) (a' := ?_) (stickfullaw14_FillCovers.bm 45 17592186044415) rfl rfl (any_of HT_.out (by kernel_rfl)) (fun _ _ _ h => h) (Or.inl ⟨by rfl, ?_⟩) ?_ ?_
                   rotate_left; (focus intro w'; go_simp; with_reducible rfl); rotate_left; (focus simp only [Act.put, List.setIfInBounds_toArray, List.set_cons_zero, List.set_cons_succ, i64_w, i32_w]; rfl)
                   refine pure_ (i := 44) (N := some 144) (v := ?_) (a' := ?_) (stickfullaw14_FillCovers.bm 45 35184372088831) rfl rfl (any_of HT_.out (by kernel_rfl)) (fun _ _ _ h => h) (Or.inl ⟨by rfl, ?_⟩) ?_ ?_
                   rotate_left; (focus intro w'; go_simp; with_reducible rfl); rotate_left; (focus simp only [Act.put, List.setIfInBounds_toArray, List.set_cons_zero, List.set_cons_succ, i64_w, i32_w]; rfl)
                   refine done_ (done_of HT_.out (by kernel_rfl)) ?_
                   have hnb74 := NB257_247.out
                   have hnc74 := NB247_257.out
                   have hnb75 := NB257_248.out
                   have hnc75 := NB248_257.out
                   obtain ⟨hcz76_0, hcz76_1, hcz76_2⟩ := cz3 BK257
                   obtain ⟨hfz76_0, hfz76_1, hfz76_2⟩ := fz3 BK257
                   try go_wp2
                   go_roundg kj45
                   case measure => have := HK1.out; have := HJ18.out; have := HJ45.out; omega
                   case rel => exact ⟨(((rd_T35 t250 x10_1).f1)), (wrap64 (x10_1 + 1)), (by first | rfl | (simp; done) | (simp [*]; done)), (by first | rfl | (simp; done) | (simp [*]; done)), H', ⟨by have := HK1.out; have := HJ18.out; have := HJ45.out; omega⟩, ⟨by (with_reducible repeat (first | apply Kd.R_alloc | apply Kd.R_drewN | apply Kd.R_drew)); exact Kd.R_mono HO_7.out (fun _ hk => trivial)⟩, ⟨by (with_reducible repeat (first | refine blk_drewN ?_ _ | refine blk_drew ?_ | refine blk_alloc ?_ _)); exact BK247.out⟩, ⟨by (with_reducible repeat (first | refine blk_drewN ?_ _ | refine blk_drew ?_ | refine blk_alloc ?_ _)); exact BK248.out⟩, ⟨by repeat (first | (with_reducible first | exact HB.out | apply below_alloc | apply pw_below_drewN | apply below_drew1 | refine below_set ?_ GE247.out | refine below_set ?_ GE248.out | refine below_set ?_ GE257.out) | exact HB.out)⟩⟩
                 ·rw [if_neg c70] at H
                  have c70b0 : (((rd_T35 t250 x10_1).f1) == (rd t258 (ji67))) = false := beq_eq_false_iff_ne.mpr c70
                  have c70b1 : (((rd_T35 t250 x10_1).f1) != (rd t258 (ji67))) = true := bne_iff_ne.mpr c70
                  exact absurd ((Option.some.inj H).trans HR_.out) (by decide)
                ·rw [if_neg c69] at H
                 exact absurd H (by simp)
               ·rw [if_neg c68] at H
                exact absurd H (by simp)
              ·rw [if_neg c66] at H
               have c66b0 : ((rd_T35 t250 x10_1).f2) = false := by simpa using c66
               clear c66
               by_cases c77 : 0 ≤ ((rd_T35 t250 x10_1).f0)
               ·rw [if_pos c77] at H
                have c77b0 := eq_true c77
                have c77b1 : decide (0 ≤ ((rd_T35 t250 x10_1).f0)) = true := decide_eq_true c77
                clear c77
                by_cases c78 : ((rd_T35 t250 x10_1).f0) ≤ ((rd_T35 t250 x10_1).f1)
                ·rw [if_pos c78] at H
                 have c78b0 := eq_true c78
                 have c78b1 : decide (((rd_T35 t250 x10_1).f0) ≤ ((rd_T35 t250 x10_1).f1)) = true := decide_eq_true c78
                 clear c78
                 by_cases c79 : ((rd_T35 t250 x10_1).f1) ≤ (l0.length : Int)
                 ·rw [if_pos c79] at H
                  have c79b0 := eq_true c79
                  have c79b1 : decide (((rd_T35 t250 x10_1).f1) ≤ (l0.length : Int)) = true := decide_eq_true c79
                  clear c79
                  obtain ⟨y268, hy268⟩ : ∃ y_ : List (S44), y_ = ((l0.take (((rd_T35 t250 x10_1).f1) : Int).toNat).drop (((rd_T35 t250 x10_1).f0) : Int).toNat) := ⟨_, rfl⟩
                  replace H : ((trim_Blank.f kj45 y268).bind fun t272 => (if t272 = true then (some false) else (if (wrap64 (x10_1 + 1)) = (t250.length : Int) then (stickfullaw14_FillCovers.l0 kj45 l0 t250 ((rd_T35 t250 x10_1).f1) (wrap64 (x10_1 + 1))) else (stickfullaw14_FillCovers.l0 kj45 l0 t250 ((rd_T35 t250 x10_1).f1) (wrap64 (x10_1 + 1)))))) = some r := by first | (rw [hy268]; with_reducible exact H) | (have H2_ := (Option.bind_some _ _).symm.trans H; rw [hy268]; with_reducible exact H2_) | (have H2_ := (Option.bind_some _ _).symm.trans H; with_reducible exact H2_) | with_reducible exact H | (rw [hy268]; exact H) | exact H
                  have Ny268 := Aside0.mk hy268
                  clear hy268
                  replace H := Option.bind_eq_some_iff.mp H
                  obtain ⟨t272, A800, H⟩ := H
                  replace H : (if t272 = true then (some false) else (if (wrap64 (x10_1 + 1)) = (t250.length : Int) then (stickfullaw14_FillCovers.l0 kj45 l0 t250 ((rd_T35 t250 x10_1).f1) (wrap64 (x10_1 + 1))) else (stickfullaw14_FillCovers.l0 kj45 l0 t250 ((rd_T35 t250 x10_1).f1) (wrap64 (x10_1 + 1))))) = some r := H
                  have A80 := Aside0.mk A800
                  clear A800
                  by_cases c81 : t272 = true
                  ·subst c81
                   have H1 : (some false) = some r := by rw [if_pos rfl] at H; exact H
                   clear H
                   have H := H1
                   clear H1
                   exact absurd ((Option.some.inj H).trans HR_.out) (by decide)
                  ·replace c81 := Bool.eq_false_iff.mpr c81
                   subst c81
                   have H1 : (if (wrap64 (x10_1 + 1)) = (t250.length : Int) then (stickfullaw14_FillCovers.l0 kj45 l0 t250 ((rd_T35 t250 x10_1).f1) (wrap64 (x10_1 + 1))) else (stickfullaw14_FillCovers.l0 kj45 l0 t250 ((rd_T35 t250 x10_1).f1) (wrap64 (x10_1 + 1)))) = some r := by rw [if_neg (show ¬ (false = true) by decide)] at H; exact H
                   clear H
                   have H := H1
                   clear H1
                   by_cases c82 : (wrap64 (x10_1 + 1)) = (t250.length : Int)
                   ·rw [if_pos c82] at H
                    have c82b0 : ((wrap64 (x10_1 + 1)) == (t250.length : Int)) = true := beq_iff_eq.mpr c82
                    have c82b1 : ((wrap64 (x10_1 + 1)) != (t250.length : Int)) = false := bne_eq_false_iff_eq.mpr c82
                    clear c82
                    have H' := Aside0.mk H
                    clear H
                    try go_wp2
                    replace HO_7 := Aside0.mk (Kd.R_drew HO_7.out)
                    replace HO_12 := Aside0.mk (Kd.R_drew HO_12.out)
                    replace BK247 := Aside0.mk (blk_drew BK247.out)
                    replace BK248 := Aside0.mk (blk_drew BK248.out)
                    replace BK257 := Aside0.mk (blk_drew BK257.out)
                    replace HB := Aside0.mk (below_drew1 HB.out)
                    have q84 : (((rd_T35 t250 x10_1).f1) : Int) ≤ ((l0.length : Int) : Int) := of_decide_eq_true (by first | (with_reducible assumption) | assumption)
                    obtain ⟨i084, hi084, _, hsz84, _⟩ := info_parts info44
                    have hroom84 : l0.length ≤ c0 := HC0.out
                    have hC84 : Kd.C k44 _ A0 l0.length l0 := HR0.out
                    have ql84 : (((rd_T35 t250 x10_1).f0) : Int) ≤ (((rd_T35 t250 x10_1).f1) : Int) := of_decide_eq_true (by first | (with_reducible assumption) | assumption)
                    have q084 : (0 : Int) ≤ (((rd_T35 t250 x10_1).f0) : Int) := of_decide_eq_true (by first | (with_reducible assumption) | assumption)
                    have hcut84 := cut_mid (P := Try.prog) 22 44 .i64 .i64 Try.underlying22 hi084 6 hsz84 A0 l0.length c0 ((rd_T35 t250 x10_1).f0) ((rd_T35 t250 x10_1).f1) q084 ql84 q84 hroom84
                    have hr84 := Kd.C_mid (lo := (((rd_T35 t250 x10_1).f0) : Int).toNat) (hi := (((rd_T35 t250 x10_1).f1) : Int).toNat) (c := c0) hC84 (by omega) (by omega) hroom84
                    obtain ⟨A84, hA84⟩ : ∃ A1, A1 = (if c0 = (((rd_T35 t250 x10_1).f0) : Int).toNat then A0 else (A0 : Option Addr).map (·.add ((((rd_T35 t250 x10_1).f0) : Int).toNat * 6))) := ⟨_, rfl⟩
                    obtain ⟨c84, hc84⟩ : ∃ c1, c1 = c0 - (((rd_T35 t250 x10_1).f0) : Int).toNat := ⟨_, rfl⟩
                    have hy84 : y268.length = (((rd_T35 t250 x10_1).f1) : Int).toNat - (((rd_T35 t250 x10_1).f0) : Int).toNat := (by rw [Ny268.out, List.length_drop, List.length_take] <;> omega)
                    rw [show ((l0).take (((rd_T35 t250 x10_1).f1) : Int).toNat).drop (((rd_T35 t250 x10_1).f0) : Int).toNat = y268 from Ny268.out.symm] at hr84
                    replace hr84 : Kd.C k44 _ A84 y268.length y268 := (by rw [hA84]; exact hr84)
                    rw [← hy84, ← hA84, ← hc84] at hcut84
                    have HR271 := Aside0.mk hr84
                    have HC271 := Aside0.mk (show y268.length ≤ c84 from by rw [hy84, hc84]; exact Nat.sub_le_sub_right (Nat.le_trans (by omega) hroom84) _)
                    clear hr84 hC84 hroom84 hi084 hsz84 hc84
                    have KY84 := Aside0.mk hy84
                    have KA84 := Aside0.mk hA84
                    clear hy84 hA84
                    replace q84 := eq_true q84
                    refine start_ (n := 45) (S := fun w' => w'.cell? ⟨gb257, 0, none⟩ = some (.int .i64 ((rd_T35 t250 x10_1).f0)) ∧ w'.cell? ⟨gb257, 1, none⟩ = some (.int .i64 ((rd_T35 t250 x10_1).f1)) ∧ w'.cell? ⟨gb257, 2, none⟩ = some (.bool ((rd_T35 t250 x10_1).f2))) (ds := []) (stickfullaw14_FillCovers.bm 45 0) (by kernel_rfl) rfl rfl ⟨bc BK257 0, bc BK257 1, bc BK257 2⟩ (fun hHeld => ?_); refine with_tabW stickfullaw14_FillCovers.tab16 stickfullaw14_FillCovers.bits16 (fun HT_ HW_ => ?_)
                    generalize wc.drew = w83 at HO_7 HO_12 BK247 BK248 BK257 HB HR271 hHeld ⊢
                    refine pure_ (i := 0) (N := some 100) (v := ?_) (a' := ?_) (stickfullaw14_FillCovers.bm 45 1) rfl rfl (any_of HT_.out (by kernel_rfl)) (fun _ _ _ h => h) (Or.inl ⟨by rfl, ?_⟩) ?_ ?_
                    rotate_left; (focus intro w'; go_simp; with_reducible rfl); rotate_left; (focus simp only [Act.put, List.setIfInBounds_toArray, List.set_cons_zero, List.set_cons_succ, i64_w, i32_w]; rfl)
                    refine pure_ (i := 1) (N := some 101) (v := ?_) (a' := ?_) (stickfullaw14_FillCovers.bm 45 3) rfl rfl (any_of HT_.out (by kernel_rfl)) (fun _ _ _ h => h) (Or.inl ⟨by rfl, ?_⟩) ?_ ?_
                    rotate_left; (focus intro w'; go_simp; with_reducible rfl); rotate_left; (focus simp only [Act.put, List.setIfInBounds_toArray, List.set_cons_zero, List.set_cons_succ, i64_w, i32_w]; rfl)
                    refine pure_ (i := 2) (N := some 102) (v := ?_) (a' := ?_) (stickfullaw14_FillCovers.bm 45 7) rfl rfl (any_of HT_.out (by kernel_rfl)) (fun _ _ _ h => h) (Or.inl ⟨by rfl, ?_⟩) ?_ ?_
                    rotate_left; (focus intro w'; go_simp; with_reducible rfl); rotate_left; (focus simp only [Act.put, List.setIfInBounds_toArray, List.set_cons_zero, List.set_cons_succ, i64_w, i32_w]; rfl)
                    refine pure_ (i := 3) (N := some 103) (v := ?_) (a' := ?_) (stickfullaw14_FillCovers.bm 45 15) rfl rfl (any_of HT_.out (by kernel_rfl)) (fun _ _ _ h => h) (Or.inl ⟨by rfl, ?_⟩) ?_ ?_
                    rotate_left; (focus intro w'; go_simp; with_reducible rfl); rotate_left; (focus simp only [Act.put, List.setIfInBounds_toArray, List.set_cons_zero, List.set_cons_succ, i64_w, i32_w]; rfl)
                    refine pure_ (i := 4) (N := some 104) (v := ?_) (a' := ?_) (stickfullaw14_FillCovers.bm 45 31) rfl rfl (any_of HT_.out (by kernel_rfl)) (fun _ _ _ h => h) (Or.inl ⟨by rfl, ?_⟩) ?_ ?_
                    rotate_left; (focus intro w'; go_simp; with_reducible rfl); rotate_left; (focus simp only [Act.put, List.setIfInBounds_toArray, List.set_cons_zero, List.set_cons_succ, i64_w, i32_w]; rfl)
                    refine pure_ (i := 5) (N := some 105) (v := ?_) (a' := ?_) (stickfullaw14_FillCovers.bm 45 63) rfl rfl (any_of HT_.out (by kernel_rfl)) (fun _ _ _ h => h) (Or.inl ⟨by rfl, ?_⟩) ?_ ?_
                    rotate_left; (focus intro w'; go_simp; with_reducible rfl); rotate_left; (focus simp only [Act.put, List.setIfInBounds_toArray, List.set_cons_zero, List.set_cons_succ, i64_w, i32_w]; rfl)
                    refine pure_ (i := 6) (N := some 106) (v := ?_) (a' := ?_) (stickfullaw14_FillCovers.bm 45 127) rfl rfl (any_of HT_.out (by kernel_rfl)) (fun _ _ _ h => h) (Or.inl ⟨by rfl, ?_⟩) ?_ ?_
                    rotate_left; (focus intro w'; go_simp; with_reducible rfl); rotate_left; (focus simp only [Act.put, List.setIfInBounds_toArray, List.set_cons_zero, List.set_cons_succ, i64_w, i32_w]; rfl)
                    refine take_ (i := 7) (N := some 107) (v := ?_) (a' := ?_) (stickfullaw14_FillCovers.bm 45 255) rfl rfl (take_ofW HT_.out HW_.out (by kernel_rfl)) (fun _ _ _ h => h) (Or.inl ⟨by rfl, ?_⟩) hHeld ?_ ?_
                    rotate_left; (focus rintro w' ⟨s0, s1, s2⟩; go_simp; with_reducible rfl); rotate_left; (focus simp only [Act.put, List.setIfInBounds_toArray, List.set_cons_zero, List.set_cons_succ, i64_w, i32_w]; rfl)
                    refine pure_ (i := 8) (N := some 108) (v := ?_) (a' := ?_) (stickfullaw14_FillCovers.bm 45 511) rfl rfl (any_of HT_.out (by kernel_rfl)) (fun _ _ _ h => h) (Or.inl ⟨by rfl, ?_⟩) ?_ ?_
                    rotate_left; (focus intro w'; go_simp; with_reducible rfl); rotate_left; (focus simp only [Act.put, List.setIfInBounds_toArray, List.set_cons_zero, List.set_cons_succ, i64_w, i32_w]; rfl)
                    refine pure_ (i := 9) (N := some 109) (v := ?_) (a' := ?_) (stickfullaw14_FillCovers.bm 45 1023) rfl rfl (any_of HT_.out (by kernel_rfl)) (fun _ _ _ h => h) (Or.inl ⟨by rfl, ?_⟩) ?_ ?_
                    rotate_left; (focus intro w'; go_simp; with_reducible rfl); rotate_left; (focus simp only [Act.put, List.setIfInBounds_toArray, List.set_cons_zero, List.set_cons_succ, i64_w, i32_w]; rfl)
                    refine pure_ (i := 10) (N := some 110) (v := ?_) (a' := ?_) (stickfullaw14_FillCovers.bm 45 2047) rfl rfl (any_of HT_.out (by kernel_rfl)) (fun _ _ _ h => h) (Or.inl ⟨by rfl, ?_⟩) ?_ ?_
                    rotate_left; (focus intro w'; go_simp; with_reducible rfl); rotate_left; (focus simp only [Act.put, List.setIfInBounds_toArray, List.set_cons_zero, List.set_cons_succ, i64_w, i32_w]; rfl)
                    refine pure_ (i := 11) (N := some 111) (v := ?_) (a' := ?_) (stickfullaw14_FillCovers.bm 45 4095) rfl rfl (any_of HT_.out (by kernel_rfl)) (fun _ _ _ h => h) (Or.inl ⟨by rfl, ?_⟩) ?_ ?_
                    rotate_left; (focus intro w'; go_simp; with_reducible rfl); rotate_left; (focus simp only [Act.put, List.setIfInBounds_toArray, List.set_cons_zero, List.set_cons_succ, i64_w, i32_w]; rfl)
                    refine pure_ (i := 12) (N := some 112) (v := ?_) (a' := ?_) (stickfullaw14_FillCovers.bm 45 8191) rfl rfl (any_of HT_.out (by kernel_rfl)) (fun _ _ _ h => h) (Or.inl ⟨by rfl, ?_⟩) ?_ ?_
                    rotate_left; (focus intro w'; go_simp; with_reducible rfl); rotate_left; (focus simp only [Act.put, List.setIfInBounds_toArray, List.set_cons_zero, List.set_cons_succ, i64_w, i32_w]; rfl)
                    refine pure_ (i := 14) (N := some 114) (v := ?_) (a' := ?_) (stickfullaw14_FillCovers.bm 45 24575) rfl rfl (any_of HT_.out (by kernel_rfl)) (fun _ _ _ h => h) (Or.inl ⟨by rfl, ?_⟩) ?_ ?_
                    rotate_left; (focus intro w'; go_simp; with_reducible rfl); rotate_left; (focus simp only [Act.put, List.setIfInBounds_toArray, List.set_cons_zero, List.set_cons_succ, i64_w, i32_w]; rfl)
                    refine take_ (i := 13) (N := some 113) (v := ?_) (a' := ?_) (stickfullaw14_FillCovers.bm 45 32767) rfl rfl (take_ofW HT_.out HW_.out (by kernel_rfl)) (fun _ _ _ h => h) (Or.inl ⟨by rfl, ?_⟩) hHeld ?_ ?_
                    rotate_left; (focus rintro w' ⟨s0, s1, s2⟩; go_simp; with_reducible rfl); rotate_left; (focus simp only [Act.put, List.setIfInBounds_toArray, List.set_cons_zero, List.set_cons_succ, i64_w, i32_w]; rfl)
                    refine take_ (i := 15) (N := some 115) (v := ?_) (a' := ?_) (stickfullaw14_FillCovers.bm 45 65535) rfl rfl (take_ofW HT_.out HW_.out (by kernel_rfl)) (fun _ _ _ h => h) (Or.inl ⟨by rfl, ?_⟩) hHeld ?_ ?_
                    rotate_left; (focus rintro w' ⟨s0, s1, s2⟩; go_simp; with_reducible rfl); rotate_left; (focus simp only [Act.put, List.setIfInBounds_toArray, List.set_cons_zero, List.set_cons_succ, i64_w, i32_w]; rfl)
                    refine pure_ (i := 16) (N := some 116) (v := ?_) (a' := ?_) (stickfullaw14_FillCovers.bm 45 131071) rfl rfl (any_of HT_.out (by kernel_rfl)) (fun _ _ _ h => h) (Or.inl ⟨by rfl, ?_⟩) ?_ ?_
                    rotate_left; (focus intro w'; go_simp; with_reducible rfl); rotate_left; (focus simp only [Act.put, List.setIfInBounds_toArray, List.set_cons_zero, List.set_cons_succ, i64_w, i32_w]; rfl)
                    refine one_ (i := 17) (N := some 117) (stickfullaw14_FillCovers.bm 45 262143) rfl rfl (one_of HT_.out (by kernel_rfl)) (by decide) (fun K hK => ?_)
                    refine goes_ Try.func14 (by kernel_rfl) rfl #[.slice A84 y268.length c84] (by rfl) rfl rfl (by (try simp only [List.map_toArray, List.map_cons, List.map_nil]); first | done | rfl | (simp only [List.length_drop, List.length_take]; rfl)) ?_
                    with_reducible refine (trim_Blank.calls kj45 _ _ y268 false _ ?side1 ?side2 A80.out).mono ?_
                    (case side1 => repeat (first | exact (Kd.C_below HR271.out HB.out) | (with_reducible refine Kd.C_alloc ?_ _) | (with_reducible refine Kd.C_drewN ?_ _) | (with_reducible refine Kd.C_drew ?_)))
                    (case side2 => exact HC271.out)
                    rintro e w85 ⟨rfl, hb⟩
                    refine ⟨_, rfl, ?_⟩
                    replace HO_7 := Aside0.mk (Kd.R_below (rx HO_7) hb)
                    replace HO_12 := Aside0.mk (Kd.R_below (rx HO_12) hb)
                    replace BK247 := bb BK247 hb
                    replace BK248 := bb BK248 hb
                    replace BK257 := bb BK257 hb
                    replace HB := bh HB hb
                    (try clear hb)
                    (try clear hb2)
                    (try clear hk)
                    (try clear hi)
                    refine hK.out _ _ ⟨bc BK257 0, bc BK257 1, bc BK257 2⟩ (fun hHeld => ?_)
                    clear hK K
                    refine norm_ (a' := ?_) ?_ ?_
                    rotate_left; (focus show Act.put _ (some 117) _ = _; simp only [Act.put, List.setIfInBounds_toArray, List.set_cons_zero, List.set_cons_succ, i64_w, i32_w]; rfl)
                    refine pure_ (i := 18) (N := some 118) (v := ?_) (a' := ?_) (stickfullaw14_FillCovers.bm 45 524287) rfl rfl (any_of HT_.out (by kernel_rfl)) (fun _ _ _ h => h) (Or.inl ⟨by rfl, ?_⟩) ?_ ?_
                    rotate_left; (focus intro w'; go_simp; with_reducible rfl); rotate_left; (focus simp only [Act.put, List.setIfInBounds_toArray, List.set_cons_zero, List.set_cons_succ, i64_w, i32_w]; rfl)
                    refine pure_ (i := 19) (N := some 119) (v := ?_) (a' := ?_) (stickfullaw14_FillCovers.bm 45 1048575) rfl rfl (any_of HT_.out (by kernel_rfl)) (fun _ _ _ h => h) (Or.inl ⟨by rfl, ?_⟩) ?_ ?_
                    rotate_left; (focus intro w'; go_simp; with_reducible rfl); rotate_left; (focus simp only [Act.put, List.setIfInBounds_toArray, List.set_cons_zero, List.set_cons_succ, i64_w, i32_w]; rfl)
                    refine pure_ (i := 20) (N := some 120) (v := ?_) (a' := ?_) (stickfullaw14_FillCovers.bm 45 2097151) rfl rfl (any_of HT_.out (by kernel_rfl)) (fun _ _ _ h => h) (Or.inl ⟨by rfl, ?_⟩) ?_ ?_
                    rotate_left; (focus intro w'; go_simp; with_reducible rfl); rotate_left; (focus simp only [Act.put, List.setIfInBounds_toArray, List.set_cons_zero, List.set_cons_succ, i64_w, i32_w]; rfl)
                    refine take_ (i := 21) (N := some 121) (v := ?_) (a' := ?_) (stickfullaw14_FillCovers.bm 45 4194303) rfl rfl (take_ofW HT_.out HW_.out (by kernel_rfl)) (fun _ _ _ h => h) (Or.inl ⟨by rfl, ?_⟩) hHeld ?_ ?_
                    rotate_left; (focus rintro w' ⟨s0, s1, s2⟩; go_simp; with_reducible rfl); rotate_left; (focus simp only [Act.put, List.setIfInBounds_toArray, List.set_cons_zero, List.set_cons_succ, i64_w, i32_w]; rfl)
                    refine pure_ (i := 22) (N := some 122) (v := ?_) (a' := ?_) (stickfullaw14_FillCovers.bm 45 8388607) rfl rfl (any_of HT_.out (by kernel_rfl)) (fun _ _ _ h => h) (Or.inl ⟨by rfl, ?_⟩) ?_ ?_
                    rotate_left; (focus intro w'; go_simp; with_reducible rfl); rotate_left; (focus simp only [Act.put, List.setIfInBounds_toArray, List.set_cons_zero, List.set_cons_succ, i64_w, i32_w]; rfl)
                    refine pure_ (i := 23) (N := some 123) (v := undef) (a' := ?_) (stickfullaw14_FillCovers.bm 45 16777215) rfl rfl (any_of HT_.out (by kernel_rfl)) (fun _ _ _ h => h) (Or.inr ⟨by rfl, rfl⟩) ?_ ?_
                    rotate_left; (focus simp only [Act.put, List.setIfInBounds_toArray, List.set_cons_zero, List.set_cons_succ, i64_w, i32_w]; rfl)
                    refine pure_ (i := 24) (N := some 124) (v := undef) (a' := ?_) (stickfullaw14_FillCovers.bm 45 33554431) rfl rfl (any_of HT_.out (by kernel_rfl)) (fun _ _ _ h => h) (Or.inr ⟨by rfl, rfl⟩) ?_ ?_
                    rotate_left; (focus simp only [Act.put, List.setIfInBounds_toArray, List.set_cons_zero, List.set_cons_succ, i64_w, i32_w]; rfl)
                    refine pure_ (i := 25) (N := some 125) (v := undef) (a' := ?_) (stickfullaw14_FillCovers.bm 45 67108863) rfl rfl (any_of HT_.out (by kernel_rfl)) (fun _ _ _ h => h) (Or.inr ⟨by rfl, rfl⟩) ?_ ?_
                    rotate_left; (focus simp only [Act.put, List.setIfInBounds_toArray, List.set_cons_zero, List.set_cons_succ, i64_w, i32_w]; rfl)
                    refine pure_ (i := 26) (N := some 126) (v := undef) (a' := ?_) (stickfullaw14_FillCovers.bm 45 134217727) rfl rfl (any_of HT_.out (by kernel_rfl)) (fun _ _ _ h => h) (Or.inr ⟨by rfl, rfl⟩) ?_ ?_
                    rotate_left; (focus simp only [Act.put, List.setIfInBounds_toArray, List.set_cons_zero, List.set_cons_succ, i64_w, i32_w]; rfl)
                    refine pure_ (i := 27) (N := some 127) (v := undef) (a' := ?_) (stickfullaw14_FillCovers.bm 45 268435455) rfl rfl (any_of HT_.out (by kernel_rfl)) (fun _ _ _ h => h) (Or.inr ⟨by rfl, rfl⟩) ?_ ?_
                    rotate_left; (focus simp only [Act.put, List.setIfInBounds_toArray, List.set_cons_zero, List.set_cons_succ, i64_w, i32_w]; rfl)
                    refine pure_ (i := 28) (N := some 128) (v := undef) (a' := ?_) (stickfullaw14_FillCovers.bm 45 536870911) rfl rfl (any_of HT_.out (by kernel_rfl)) (fun _ _ _ h => h) (Or.inr ⟨by rfl, rfl⟩) ?_ ?_
                    rotate_left; (focus simp only [Act.put, List.setIfInBounds_toArray, List.set_cons_zero, List.set_cons_succ, i64_w, i32_w]; rfl)
                    refine pure_ (i := 29) (N := some 129) (v := undef) (a' := ?_) (stickfullaw14_FillCovers.bm 45 1073741823) rfl rfl (any_of HT_.out (by kernel_rfl)) (fun _ _ _ h => h) (Or.inr ⟨by rfl, rfl⟩) ?_ ?_
                    rotate_left; (focus simp only [Act.put, List.setIfInBounds_toArray, List.set_cons_zero, List.set_cons_succ, i64_w, i32_w]; rfl)
                    refine pure_ (i := 30) (N := some 130) (v := undef) (a' := ?_) (stickfullaw14_FillCovers.bm 45 2147483647) rfl rfl (any_of HT_.out (by kernel_rfl)) (fun _ _ _ h => h) (Or.inr ⟨by rfl, rfl⟩) ?_ ?_
                    rotate_left; (focus simp only [Act.put, List.setIfInBounds_toArray, List.set_cons_zero, List.set_cons_succ, i64_w, i32_w]; rfl)
                    refine pure_ (i := 31) (N := some 131) (v := undef) (a' := ?_) (stickfullaw14_FillCovers.bm 45 4294967295) rfl rfl (any_of HT_.out (by kernel_rfl)) (fun _ _ _ h => h) (Or.inr ⟨by rfl, rfl⟩) ?_ ?_
                    rotate_left; (focus simp only [Act.put, List.setIfInBounds_toArray, List.set_cons_zero, List.set_cons_succ, i64_w, i32_w]; rfl)
                    refine pure_ (i := 32) (N := some 132) (v := ?_) (a' := ?_) (stickfullaw14_FillCovers.bm 45 8589934591) rfl rfl (any_of HT_.out (by kernel_rfl)) (fun _ _ _ h => h) (Or.inl ⟨by rfl, ?_⟩) ?_ ?_
                    rotate_left; (focus intro w'; go_simp; with_reducible rfl); rotate_left; (focus simp only [Act.put, List.setIfInBounds_toArray, List.set_cons_zero, List.set_cons_succ, i64_w, i32_w]; rfl)
                    refine pure_ (i := 33) (N := some 133) (v := ?_) (a' := ?_) (stickfullaw14_FillCovers.bm 45 17179869183) rfl rfl (any_of HT_.out (by kernel_rfl)) (fun _ _ _ h => h) (Or.inl ⟨by rfl, ?_⟩) ?_ ?_
                    rotate_left; (focus intro w'; go_simp; with_reducible rfl); rotate_left; (focus simp only [Act.put, List.setIfInBounds_toArray, List.set_cons_zero, List.set_cons_succ, i64_w, i32_w]; rfl)
                    refine pure_ (i := 34) (N := some 134) (v := ?_) (a' := ?_) (stickfullaw14_FillCovers.bm 45 34359738367) rfl rfl (any_of HT_.out (by kernel_rfl)) (fun _ _ _ h => h) (Or.inl ⟨by rfl, ?_⟩) ?_ ?_
                    rotate_left; (focus intro w'; go_simp; with_reducible rfl); rotate_left; (focus simp only [Act.put, List.setIfInBounds_toArray, List.set_cons_zero, List.set_cons_succ, i64_w, i32_w]; rfl)
                    refine pure_ (i := 35) (N := some 135) (v := ?_) (a' := ?_) (stickfullaw14_FillCovers.bm 45 68719476735) rfl rfl (any_of HT_.out (by kernel_rfl)) (fun _ _ _ h => h) (Or.inl ⟨by rfl, ?_⟩) ?_ ?_
                    rotate_left; (focus intro w'; go_simp; with_reducible rfl); rotate_left; (focus simp only [Act.put, List.setIfInBounds_toArray, List.set_cons_zero, List.set_cons_succ, i64_w, i32_w]; rfl)
                    refine pure_ (i := 36) (N := some 136) (v := ?_) (a' := ?_) (stickfullaw14_FillCovers.bm 45 137438953471) rfl rfl (any_of HT_.out (by kernel_rfl)) (fun _ _ _ h => h) (Or.inl ⟨by rfl, ?_⟩) ?_ ?_
                    rotate_left; (focus intro w'; go_simp; with_reducible rfl); rotate_left; (focus simp only [Act.put, List.setIfInBounds_toArray, List.set_cons_zero, List.set_cons_succ, i64_w, i32_w]; rfl)
                    refine pure_ (i := 37) (N := some 137) (v := ?_) (a' := ?_) (stickfullaw14_FillCovers.bm 45 274877906943) rfl rfl (any_of HT_.out (by kernel_rfl)) (fun _ _ _ h => h) (Or.inl ⟨by rfl, ?_⟩) ?_ ?_
                    rotate_left; (focus intro w'; go_simp; with_reducible rfl); rotate_left; (focus simp only [Act.put, List.setIfInBounds_toArray, List.set_cons_zero, List.set_cons_succ, i64_w, i32_w]; rfl)
                    refine pure_ (i := 38) (N := some 138) (v := ?_) (a' := ?_) (stickfullaw14_FillCovers.bm 45 549755813887) rfl rfl (any_of HT_.out (by kernel_rfl)) (fun _ _ _ h => h) (Or.inl ⟨by rfl, ?_⟩) ?_ ?_
                    rotate_left; (focus intro w'; go_simp; with_reducible rfl); rotate_left; (focus simp only [Act.put, List.setIfInBounds_toArray, List.set_cons_zero, List.set_cons_succ, i64_w, i32_w]; rfl)
                    refine pure_ (i := 39) (N := some 139) (v := ?_) (a' := ?_) (stickfullaw14_FillCovers.bm 45 1099511627775) rfl rfl (any_of HT_.out (by kernel_rfl)) (fun _ _ _ h => h) (Or.inl ⟨by rfl, ?_⟩) ?_ ?_
                    rotate_left; (focus intro w'; go_simp; with_reducible rfl); rotate_left; (focus simp only [Act.put, List.setIfInBounds_toArray, List.set_cons_zero, List.set_cons_succ, i64_w, i32_w]; rfl)
                    refine pure_ (i := 40) (N := some 140) (v := ?_) (a' := ?_) (stickfullaw14_FillCovers.bm 45 2199023255551) rfl rfl (any_of HT_.out (by kernel_rfl)) (fun _ _ _ h => h) (Or.inl ⟨by rfl, ?_⟩) ?_ ?_
                    rotate_left; (focus intro w'; go_simp; with_reducible rfl); rotate_left; (focus simp only [Act.put, List.setIfInBounds_toArray, List.set_cons_zero, List.set_cons_succ, i64_w, i32_w]; rfl)
                    refine pure_ (i := 41) (N := some 141) (v := ?_) (a' := ?_) (stickfullaw14_FillCovers.bm 45 4398046511103) rfl rfl (any_of HT_.out (by kernel_rfl)) (fun _ _ _ h => h) (Or.inl ⟨by rfl, ?_⟩) ?_ ?_
                    rotate_left; (focus intro w'; go_simp; with_reducible rfl); rotate_left; (focus simp only [Act.put, List.setIfInBounds_toArray, List.set_cons_zero, List.set_cons_succ, i64_w, i32_w]; rfl)
                    refine take_ (i := 42) (N := some 142) (v := ?_) (a' := ?_) (stickfullaw14_FillCovers.bm 45 8796093022207) rfl rfl (take_ofW HT_.out HW_.out (by kernel_rfl)) (fun _ _ _ h => h) (Or.inl ⟨by rfl, ?_⟩) hHeld ?_ ?_
                    rotate_left; (focus rintro w' ⟨s0, s1, s2⟩; go_simp; with_reducible rfl); rotate_left; (focus simp only [Act.put, List.setIfInBounds_toArray, List.set_cons_zero, List.set_cons_succ, i64_w, i32_w]; rfl)
                    refine pure_ (i := 43) (N := some 143) (v := ?_) (a' := ?_) (stickfullaw14_FillCovers.bm 45 17592186044415) rfl rfl (any_of HT_.out (by kernel_rfl)) (fun _ _ _ h => h) (Or.inl ⟨by rfl, ?_⟩) ?_ ?_
                    rotate_left; (focus intro w'; go_simp; with_reducible rfl); rotate_left; (focus simp only [Act.put, List.setIfInBounds_toArray, List.set_cons_zero, List.set_cons_succ, i64_w, i32_w]; rfl)
                    refine pure_ (i := 44) (N := some 144) (v := ?_) (a' := ?_) (stickfullaw14_FillCovers.bm 45 35184372088831) rfl rfl (any_of HT_.out (by kernel_rfl)) (fun _ _ _ h => h) (Or.inl ⟨by rfl, ?_⟩) ?_ ?_
                    rotate_left; (focus intro w'; go_simp; with_reducible rfl); rotate_left; (focus simp only [Act.put, List.setIfInBounds_toArray, List.set_cons_zero, List.set_cons_succ, i64_w, i32_w]; rfl)
                    refine done_ (done_of HT_.out (by kernel_rfl)) ?_
                    have hnb86 := NB257_247.out
                    have hnc86 := NB247_257.out
                    have hnb87 := NB257_248.out
                    have hnc87 := NB248_257.out
                    obtain ⟨hcz88_0, hcz88_1, hcz88_2⟩ := cz3 BK257
                    obtain ⟨hfz88_0, hfz88_1, hfz88_2⟩ := fz3 BK257
                    try go_wp2
                    go_roundg kj45
                    case measure => have := HK1.out; have := HJ18.out; have := HJ45.out; omega
                    case rel => exact ⟨(((rd_T35 t250 x10_1).f1)), (wrap64 (x10_1 + 1)), (by first | rfl | (simp; done) | (simp [*]; done)), (by first | rfl | (simp; done) | (simp [*]; done)), H', ⟨by have := HK1.out; have := HJ18.out; have := HJ45.out; omega⟩, ⟨by (with_reducible repeat (first | apply Kd.R_alloc | apply Kd.R_drewN | apply Kd.R_drew)); exact Kd.R_mono HO_7.out (fun _ hk => trivial)⟩, ⟨by (with_reducible repeat (first | refine blk_drewN ?_ _ | refine blk_drew ?_ | refine blk_alloc ?_ _)); exact BK247.out⟩, ⟨by (with_reducible repeat (first | refine blk_drewN ?_ _ | refine blk_drew ?_ | refine blk_alloc ?_ _)); exact BK248.out⟩, ⟨by repeat (first | (with_reducible first | exact HB.out | apply below_alloc | apply pw_below_drewN | apply below_drew1 | refine below_set ?_ GE247.out | refine below_set ?_ GE248.out | refine below_set ?_ GE257.out) | exact HB.out)⟩⟩
                   ·rw [if_neg c82] at H
                    have c82b0 : ((wrap64 (x10_1 + 1)) == (t250.length : Int)) = false := beq_eq_false_iff_ne.mpr c82
                    have c82b1 : ((wrap64 (x10_1 + 1)) != (t250.length : Int)) = true := bne_iff_ne.mpr c82
                    have H' := Aside0.mk H
                    clear H
                    try go_wp2
                    replace HO_7 := Aside0.mk (Kd.R_drew HO_7.out)
                    replace HO_12 := Aside0.mk (Kd.R_drew HO_12.out)
                    replace BK247 := Aside0.mk (blk_drew BK247.out)
                    replace BK248 := Aside0.mk (blk_drew BK248.out)
                    replace BK257 := Aside0.mk (blk_drew BK257.out)
                    replace HB := Aside0.mk (below_drew1 HB.out)
                    have q90 : (((rd_T35 t250 x10_1).f1) : Int) ≤ ((l0.length : Int) : Int) := of_decide_eq_true (by first | (with_reducible assumption) | assumption)
                    obtain ⟨i090, hi090, _, hsz90, _⟩ := info_parts info44
                    have hroom90 : l0.length ≤ c0 := HC0.out
                    have hC90 : Kd.C k44 _ A0 l0.length l0 := HR0.out
                    have ql90 : (((rd_T35 t250 x10_1).f0) : Int) ≤ (((rd_T35 t250 x10_1).f1) : Int) := of_decide_eq_true (by first | (with_reducible assumption) | assumption)
                    have q090 : (0 : Int) ≤ (((rd_T35 t250 x10_1).f0) : Int) := of_decide_eq_true (by first | (with_reducible assumption) | assumption)
                    have hcut90 := cut_mid (P := Try.prog) 22 44 .i64 .i64 Try.underlying22 hi090 6 hsz90 A0 l0.length c0 ((rd_T35 t250 x10_1).f0) ((rd_T35 t250 x10_1).f1) q090 ql90 q90 hroom90
                    have hr90 := Kd.C_mid (lo := (((rd_T35 t250 x10_1).f0) : Int).toNat) (hi := (((rd_T35 t250 x10_1).f1) : Int).toNat) (c := c0) hC90 (by omega) (by omega) hroom90
                    obtain ⟨A90, hA90⟩ : ∃ A1, A1 = (if c0 = (((rd_T35 t250 x10_1).f0) : Int).toNat then A0 else (A0 : Option Addr).map (·.add ((((rd_T35 t250 x10_1).f0) : Int).toNat * 6))) := ⟨_, rfl⟩
                    obtain ⟨c90, hc90⟩ : ∃ c1, c1 = c0 - (((rd_T35 t250 x10_1).f0) : Int).toNat := ⟨_, rfl⟩
                    have hy90 : y268.length = (((rd_T35 t250 x10_1).f1) : Int).toNat - (((rd_T35 t250 x10_1).f0) : Int).toNat := (by rw [Ny268.out, List.length_drop, List.length_take] <;> omega)
                    rw [show ((l0).take (((rd_T35 t250 x10_1).f1) : Int).toNat).drop (((rd_T35 t250 x10_1).f0) : Int).toNat = y268 from Ny268.out.symm] at hr90
                    replace hr90 : Kd.C k44 _ A90 y268.length y268 := (by rw [hA90]; exact hr90)
                    rw [← hy90, ← hA90, ← hc90] at hcut90
                    have HR271 := Aside0.mk hr90
                    have HC271 := Aside0.mk (show y268.length ≤ c90 from by rw [hy90, hc90]; exact Nat.sub_le_sub_right (Nat.le_trans (by omega) hroom90) _)
                    clear hr90 hC90 hroom90 hi090 hsz90 hc90
                    have KY90 := Aside0.mk hy90
                    have KA90 := Aside0.mk hA90
                    clear hy90 hA90
                    replace q90 := eq_true q90
                    refine start_ (n := 45) (S := fun w' => w'.cell? ⟨gb257, 0, none⟩ = some (.int .i64 ((rd_T35 t250 x10_1).f0)) ∧ w'.cell? ⟨gb257, 1, none⟩ = some (.int .i64 ((rd_T35 t250 x10_1).f1)) ∧ w'.cell? ⟨gb257, 2, none⟩ = some (.bool ((rd_T35 t250 x10_1).f2))) (ds := []) (stickfullaw14_FillCovers.bm 45 0) (by kernel_rfl) rfl rfl ⟨bc BK257 0, bc BK257 1, bc BK257 2⟩ (fun hHeld => ?_); refine with_tabW stickfullaw14_FillCovers.tab16 stickfullaw14_FillCovers.bits16 (fun HT_ HW_ => ?_)
                    generalize wc.drew = w89 at HO_7 HO_12 BK247 BK248 BK257 HB HR271 hHeld ⊢
                    refine pure_ (i := 0) (N := some 100) (v := ?_) (a' := ?_) (stickfullaw14_FillCovers.bm 45 1) rfl rfl (any_of HT_.out (by kernel_rfl)) (fun _ _ _ h => h) (Or.inl ⟨by rfl, ?_⟩) ?_ ?_
                    rotate_left; (focus intro w'; go_simp; with_reducible rfl); rotate_left; (focus simp only [Act.put, List.setIfInBounds_toArray, List.set_cons_zero, List.set_cons_succ, i64_w, i32_w]; rfl)
                    refine pure_ (i := 1) (N := some 101) (v := ?_) (a' := ?_) (stickfullaw14_FillCovers.bm 45 3) rfl rfl (any_of HT_.out (by kernel_rfl)) (fun _ _ _ h => h) (Or.inl ⟨by rfl, ?_⟩) ?_ ?_
                    rotate_left; (focus intro w'; go_simp; with_reducible rfl); rotate_left; (focus simp only [Act.put, List.setIfInBounds_toArray, List.set_cons_zero, List.set_cons_succ, i64_w, i32_w]; rfl)
                    refine pure_ (i := 2) (N := some 102) (v := ?_) (a' := ?_) (stickfullaw14_FillCovers.bm 45 7) rfl rfl (any_of HT_.out (by kernel_rfl)) (fun _ _ _ h => h) (Or.inl ⟨by rfl, ?_⟩) ?_ ?_
                    rotate_left; (focus intro w'; go_simp; with_reducible rfl); rotate_left; (focus simp only [Act.put, List.setIfInBounds_toArray, List.set_cons_zero, List.set_cons_succ, i64_w, i32_w]; rfl)
                    refine pure_ (i := 3) (N := some 103) (v := ?_) (a' := ?_) (stickfullaw14_FillCovers.bm 45 15) rfl rfl (any_of HT_.out (by kernel_rfl)) (fun _ _ _ h => h) (Or.inl ⟨by rfl, ?_⟩) ?_ ?_
                    rotate_left; (focus intro w'; go_simp; with_reducible rfl); rotate_left; (focus simp only [Act.put, List.setIfInBounds_toArray, List.set_cons_zero, List.set_cons_succ, i64_w, i32_w]; rfl)
                    refine pure_ (i := 4) (N := some 104) (v := ?_) (a' := ?_) (stickfullaw14_FillCovers.bm 45 31) rfl rfl (any_of HT_.out (by kernel_rfl)) (fun _ _ _ h => h) (Or.inl ⟨by rfl, ?_⟩) ?_ ?_
                    rotate_left; (focus intro w'; go_simp; with_reducible rfl); rotate_left; (focus simp only [Act.put, List.setIfInBounds_toArray, List.set_cons_zero, List.set_cons_succ, i64_w, i32_w]; rfl)
                    refine pure_ (i := 5) (N := some 105) (v := ?_) (a' := ?_) (stickfullaw14_FillCovers.bm 45 63) rfl rfl (any_of HT_.out (by kernel_rfl)) (fun _ _ _ h => h) (Or.inl ⟨by rfl, ?_⟩) ?_ ?_
                    rotate_left; (focus intro w'; go_simp; with_reducible rfl); rotate_left; (focus simp only [Act.put, List.setIfInBounds_toArray, List.set_cons_zero, List.set_cons_succ, i64_w, i32_w]; rfl)
                    refine pure_ (i := 6) (N := some 106) (v := ?_) (a' := ?_) (stickfullaw14_FillCovers.bm 45 127) rfl rfl (any_of HT_.out (by kernel_rfl)) (fun _ _ _ h => h) (Or.inl ⟨by rfl, ?_⟩) ?_ ?_
                    rotate_left; (focus intro w'; go_simp; with_reducible rfl); rotate_left; (focus simp only [Act.put, List.setIfInBounds_toArray, List.set_cons_zero, List.set_cons_succ, i64_w, i32_w]; rfl)
                    refine take_ (i := 7) (N := some 107) (v := ?_) (a' := ?_) (stickfullaw14_FillCovers.bm 45 255) rfl rfl (take_ofW HT_.out HW_.out (by kernel_rfl)) (fun _ _ _ h => h) (Or.inl ⟨by rfl, ?_⟩) hHeld ?_ ?_
                    rotate_left; (focus rintro w' ⟨s0, s1, s2⟩; go_simp; with_reducible rfl); rotate_left; (focus simp only [Act.put, List.setIfInBounds_toArray, List.set_cons_zero, List.set_cons_succ, i64_w, i32_w]; rfl)
                    refine pure_ (i := 8) (N := some 108) (v := ?_) (a' := ?_) (stickfullaw14_FillCovers.bm 45 511) rfl rfl (any_of HT_.out (by kernel_rfl)) (fun _ _ _ h => h) (Or.inl ⟨by rfl, ?_⟩) ?_ ?_
                    rotate_left; (focus intro w'; go_simp; with_reducible rfl); rotate_left; (focus simp only [Act.put, List.setIfInBounds_toArray, List.set_cons_zero, List.set_cons_succ, i64_w, i32_w]; rfl)
                    refine pure_ (i := 9) (N := some 109) (v := ?_) (a' := ?_) (stickfullaw14_FillCovers.bm 45 1023) rfl rfl (any_of HT_.out (by kernel_rfl)) (fun _ _ _ h => h) (Or.inl ⟨by rfl, ?_⟩) ?_ ?_
                    rotate_left; (focus intro w'; go_simp; with_reducible rfl); rotate_left; (focus simp only [Act.put, List.setIfInBounds_toArray, List.set_cons_zero, List.set_cons_succ, i64_w, i32_w]; rfl)
                    refine pure_ (i := 10) (N := some 110) (v := ?_) (a' := ?_) (stickfullaw14_FillCovers.bm 45 2047) rfl rfl (any_of HT_.out (by kernel_rfl)) (fun _ _ _ h => h) (Or.inl ⟨by rfl, ?_⟩) ?_ ?_
                    rotate_left; (focus intro w'; go_simp; with_reducible rfl); rotate_left; (focus simp only [Act.put, List.setIfInBounds_toArray, List.set_cons_zero, List.set_cons_succ, i64_w, i32_w]; rfl)
                    refine pure_ (i := 11) (N := some 111) (v := ?_) (a' := ?_) (stickfullaw14_FillCovers.bm 45 4095) rfl rfl (any_of HT_.out (by kernel_rfl)) (fun _ _ _ h => h) (Or.inl ⟨by rfl, ?_⟩) ?_ ?_
                    rotate_left; (focus intro w'; go_simp; with_reducible rfl); rotate_left; (focus simp only [Act.put, List.setIfInBounds_toArray, List.set_cons_zero, List.set_cons_succ, i64_w, i32_w]; rfl)
                    refine pure_ (i := 12) (N := some 112) (v := ?_) (a' := ?_) (stickfullaw14_FillCovers.bm 45 8191) rfl rfl (any_of HT_.out (by kernel_rfl)) (fun _ _ _ h => h) (Or.inl ⟨by rfl, ?_⟩) ?_ ?_
                    rotate_left; (focus intro w'; go_simp; with_reducible rfl); rotate_left; (focus simp only [Act.put, List.setIfInBounds_toArray, List.set_cons_zero, List.set_cons_succ, i64_w, i32_w]; rfl)
                    refine pure_ (i := 14) (N := some 114) (v := ?_) (a' := ?_) (stickfullaw14_FillCovers.bm 45 24575) rfl rfl (any_of HT_.out (by kernel_rfl)) (fun _ _ _ h => h) (Or.inl ⟨by rfl, ?_⟩) ?_ ?_
                    rotate_left; (focus intro w'; go_simp; with_reducible rfl); rotate_left; (focus simp only [Act.put, List.setIfInBounds_toArray, List.set_cons_zero, List.set_cons_succ, i64_w, i32_w]; rfl)
                    refine take_ (i := 13) (N := some 113) (v := ?_) (a' := ?_) (stickfullaw14_FillCovers.bm 45 32767) rfl rfl (take_ofW HT_.out HW_.out (by kernel_rfl)) (fun _ _ _ h => h) (Or.inl ⟨by rfl, ?_⟩) hHeld ?_ ?_
                    rotate_left; (focus rintro w' ⟨s0, s1, s2⟩; go_simp; with_reducible rfl); rotate_left; (focus simp only [Act.put, List.setIfInBounds_toArray, List.set_cons_zero, List.set_cons_succ, i64_w, i32_w]; rfl)
                    refine take_ (i := 15) (N := some 115) (v := ?_) (a' := ?_) (stickfullaw14_FillCovers.bm 45 65535) rfl rfl (take_ofW HT_.out HW_.out (by kernel_rfl)) (fun _ _ _ h => h) (Or.inl ⟨by rfl, ?_⟩) hHeld ?_ ?_
                    rotate_left; (focus rintro w' ⟨s0, s1, s2⟩; go_simp; with_reducible rfl); rotate_left; (focus simp only [Act.put, List.setIfInBounds_toArray, List.set_cons_zero, List.set_cons_succ, i64_w, i32_w]; rfl)
                    refine pure_ (i := 16) (N := some 116) (v := ?_) (a' := ?_) (stickfullaw14_FillCovers.bm 45 131071) rfl rfl (any_of HT_.out (by kernel_rfl)) (fun _ _ _ h => h) (Or.inl ⟨by rfl, ?_⟩) ?_ ?_
                    rotate_left; (focus intro w'; go_simp; with_reducible rfl); rotate_left; (focus simp only [Act.put, List.setIfInBounds_toArray, List.set_cons_zero, List.set_cons_succ, i64_w, i32_w]; rfl)
                    refine one_ (i := 17) (N := some 117) (stickfullaw14_FillCovers.bm 45 262143) rfl rfl (one_of HT_.out (by kernel_rfl)) (by decide) (fun K hK => ?_)
                    refine goes_ Try.func14 (by kernel_rfl) rfl #[.slice A90 y268.length c90] (by rfl) rfl rfl (by (try simp only [List.map_toArray, List.map_cons, List.map_nil]); first | done | rfl | (simp only [List.length_drop, List.length_take]; rfl)) ?_
                    with_reducible refine (trim_Blank.calls kj45 _ _ y268 false _ ?side1 ?side2 A80.out).mono ?_
                    (case side1 => repeat (first | exact (Kd.C_below HR271.out HB.out) | (with_reducible refine Kd.C_alloc ?_ _) | (with_reducible refine Kd.C_drewN ?_ _) | (with_reducible refine Kd.C_drew ?_)))
                    (case side2 => exact HC271.out)
                    rintro e w91 ⟨rfl, hb⟩
                    refine ⟨_, rfl, ?_⟩
                    replace HO_7 := Aside0.mk (Kd.R_below (rx HO_7) hb)
                    replace HO_12 := Aside0.mk (Kd.R_below (rx HO_12) hb)
                    replace BK247 := bb BK247 hb
                    replace BK248 := bb BK248 hb
                    replace BK257 := bb BK257 hb
                    replace HB := bh HB hb
                    (try clear hb)
                    (try clear hb2)
                    (try clear hk)
                    (try clear hi)
                    refine hK.out _ _ ⟨bc BK257 0, bc BK257 1, bc BK257 2⟩ (fun hHeld => ?_)
                    clear hK K
                    refine norm_ (a' := ?_) ?_ ?_
                    rotate_left; (focus show Act.put _ (some 117) _ = _; simp only [Act.put, List.setIfInBounds_toArray, List.set_cons_zero, List.set_cons_succ, i64_w, i32_w]; rfl)
                    refine pure_ (i := 18) (N := some 118) (v := ?_) (a' := ?_) (stickfullaw14_FillCovers.bm 45 524287) rfl rfl (any_of HT_.out (by kernel_rfl)) (fun _ _ _ h => h) (Or.inl ⟨by rfl, ?_⟩) ?_ ?_
                    rotate_left; (focus intro w'; go_simp; with_reducible rfl); rotate_left; (focus simp only [Act.put, List.setIfInBounds_toArray, List.set_cons_zero, List.set_cons_succ, i64_w, i32_w]; rfl)
                    refine pure_ (i := 19) (N := some 119) (v := ?_) (a' := ?_) (stickfullaw14_FillCovers.bm 45 1048575) rfl rfl (any_of HT_.out (by kernel_rfl)) (fun _ _ _ h => h) (Or.inl ⟨by rfl, ?_⟩) ?_ ?_
                    rotate_left; (focus intro w'; go_simp; with_reducible rfl); rotate_left; (focus simp only [Act.put, List.setIfInBounds_toArray, List.set_cons_zero, List.set_cons_succ, i64_w, i32_w]; rfl)
                    refine pure_ (i := 20) (N := some 120) (v := ?_) (a' := ?_) (stickfullaw14_FillCovers.bm 45 2097151) rfl rfl (any_of HT_.out (by kernel_rfl)) (fun _ _ _ h => h) (Or.inl ⟨by rfl, ?_⟩) ?_ ?_
                    rotate_left; (focus intro w'; go_simp; with_reducible rfl); rotate_left; (focus simp only [Act.put, List.setIfInBounds_toArray, List.set_cons_zero, List.set_cons_succ, i64_w, i32_w]; rfl)
                    refine take_ (i := 21) (N := some 121) (v := ?_) (a' := ?_) (stickfullaw14_FillCovers.bm 45 4194303) rfl rfl (take_ofW HT_.out HW_.out (by kernel_rfl)) (fun _ _ _ h => h) (Or.inl ⟨by rfl, ?_⟩) hHeld ?_ ?_
                    rotate_left; (focus rintro w' ⟨s0, s1, s2⟩; go_simp; with_reducible rfl); rotate_left; (focus simp only [Act.put, List.setIfInBounds_toArray, List.set_cons_zero, List.set_cons_succ, i64_w, i32_w]; rfl)
                    refine pure_ (i := 22) (N := some 122) (v := ?_) (a' := ?_) (stickfullaw14_FillCovers.bm 45 8388607) rfl rfl (any_of HT_.out (by kernel_rfl)) (fun _ _ _ h => h) (Or.inl ⟨by rfl, ?_⟩) ?_ ?_
                    rotate_left; (focus intro w'; go_simp; with_reducible rfl); rotate_left; (focus simp only [Act.put, List.setIfInBounds_toArray, List.set_cons_zero, List.set_cons_succ, i64_w, i32_w]; rfl)
                    refine pure_ (i := 23) (N := some 123) (v := undef) (a' := ?_) (stickfullaw14_FillCovers.bm 45 16777215) rfl rfl (any_of HT_.out (by kernel_rfl)) (fun _ _ _ h => h) (Or.inr ⟨by rfl, rfl⟩) ?_ ?_
                    rotate_left; (focus simp only [Act.put, List.setIfInBounds_toArray, List.set_cons_zero, List.set_cons_succ, i64_w, i32_w]; rfl)
                    refine pure_ (i := 24) (N := some 124) (v := undef) (a' := ?_) (stickfullaw14_FillCovers.bm 45 33554431) rfl rfl (any_of HT_.out (by kernel_rfl)) (fun _ _ _ h => h) (Or.inr ⟨by rfl, rfl⟩) ?_ ?_
                    rotate_left; (focus simp only [Act.put, List.setIfInBounds_toArray, List.set_cons_zero, List.set_cons_succ, i64_w, i32_w]; rfl)
                    refine pure_ (i := 25) (N := some 125) (v := undef) (a' := ?_) (stickfullaw14_FillCovers.bm 45 67108863) rfl rfl (any_of HT_.out (by kernel_rfl)) (fun _ _ _ h => h) (Or.inr ⟨by rfl, rfl⟩) ?_ ?_
                    rotate_left; (focus simp only [Act.put, List.setIfInBounds_toArray, List.set_cons_zero, List.set_cons_succ, i64_w, i32_w]; rfl)
                    refine pure_ (i := 26) (N := some 126) (v := undef) (a' := ?_) (stickfullaw14_FillCovers.bm 45 134217727) rfl rfl (any_of HT_.out (by kernel_rfl)) (fun _ _ _ h => h) (Or.inr ⟨by rfl, rfl⟩) ?_ ?_
                    rotate_left; (focus simp only [Act.put, List.setIfInBounds_toArray, List.set_cons_zero, List.set_cons_succ, i64_w, i32_w]; rfl)
                    refine pure_ (i := 27) (N := some 127) (v := undef) (a' := ?_) (stickfullaw14_FillCovers.bm 45 268435455) rfl rfl (any_of HT_.out (by kernel_rfl)) (fun _ _ _ h => h) (Or.inr ⟨by rfl, rfl⟩) ?_ ?_
                    rotate_left; (focus simp only [Act.put, List.setIfInBounds_toArray, List.set_cons_zero, List.set_cons_succ, i64_w, i32_w]; rfl)
                    refine pure_ (i := 28) (N := some 128) (v := undef) (a' := ?_) (stickfullaw14_FillCovers.bm 45 536870911) rfl rfl (any_of HT_.out (by kernel_rfl)) (fun _ _ _ h => h) (Or.inr ⟨by rfl, rfl⟩) ?_ ?_
                    rotate_left; (focus simp only [Act.put, List.setIfInBounds_toArray, List.set_cons_zero, List.set_cons_succ, i64_w, i32_w]; rfl)
                    refine pure_ (i := 29) (N := some 129) (v := undef) (a' := ?_) (stickfullaw14_FillCovers.bm 45 1073741823) rfl rfl (any_of HT_.out (by kernel_rfl)) (fun _ _ _ h => h) (Or.inr ⟨by rfl, rfl⟩) ?_ ?_
                    rotate_left; (focus simp only [Act.put, List.setIfInBounds_toArray, List.set_cons_zero, List.set_cons_succ, i64_w, i32_w]; rfl)
                    refine pure_ (i := 30) (N := some 130) (v := undef) (a' := ?_) (stickfullaw14_FillCovers.bm 45 2147483647) rfl rfl (any_of HT_.out (by kernel_rfl)) (fun _ _ _ h => h) (Or.inr ⟨by rfl, rfl⟩) ?_ ?_
                    rotate_left; (focus simp only [Act.put, List.setIfInBounds_toArray, List.set_cons_zero, List.set_cons_succ, i64_w, i32_w]; rfl)
                    refine pure_ (i := 31) (N := some 131) (v := undef) (a' := ?_) (stickfullaw14_FillCovers.bm 45 4294967295) rfl rfl (any_of HT_.out (by kernel_rfl)) (fun _ _ _ h => h) (Or.inr ⟨by rfl, rfl⟩) ?_ ?_
                    rotate_left; (focus simp only [Act.put, List.setIfInBounds_toArray, List.set_cons_zero, List.set_cons_succ, i64_w, i32_w]; rfl)
                    refine pure_ (i := 32) (N := some 132) (v := ?_) (a' := ?_) (stickfullaw14_FillCovers.bm 45 8589934591) rfl rfl (any_of HT_.out (by kernel_rfl)) (fun _ _ _ h => h) (Or.inl ⟨by rfl, ?_⟩) ?_ ?_
                    rotate_left; (focus intro w'; go_simp; with_reducible rfl); rotate_left; (focus simp only [Act.put, List.setIfInBounds_toArray, List.set_cons_zero, List.set_cons_succ, i64_w, i32_w]; rfl)
                    refine pure_ (i := 33) (N := some 133) (v := ?_) (a' := ?_) (stickfullaw14_FillCovers.bm 45 17179869183) rfl rfl (any_of HT_.out (by kernel_rfl)) (fun _ _ _ h => h) (Or.inl ⟨by rfl, ?_⟩) ?_ ?_
                    rotate_left; (focus intro w'; go_simp; with_reducible rfl); rotate_left; (focus simp only [Act.put, List.setIfInBounds_toArray, List.set_cons_zero, List.set_cons_succ, i64_w, i32_w]; rfl)
                    refine pure_ (i := 34) (N := some 134) (v := ?_) (a' := ?_) (stickfullaw14_FillCovers.bm 45 34359738367) rfl rfl (any_of HT_.out (by kernel_rfl)) (fun _ _ _ h => h) (Or.inl ⟨by rfl, ?_⟩) ?_ ?_
                    rotate_left; (focus intro w'; go_simp; with_reducible rfl); rotate_left; (focus simp only [Act.put, List.setIfInBounds_toArray, List.set_cons_zero, List.set_cons_succ, i64_w, i32_w]; rfl)
                    refine pure_ (i := 35) (N := some 135) (v := ?_) (a' := ?_) (stickfullaw14_FillCovers.bm 45 68719476735) rfl rfl (any_of HT_.out (by kernel_rfl)) (fun _ _ _ h => h) (Or.inl ⟨by rfl, ?_⟩) ?_ ?_
                    rotate_left; (focus intro w'; go_simp; with_reducible rfl); rotate_left; (focus simp only [Act.put, List.setIfInBounds_toArray, List.set_cons_zero, List.set_cons_succ, i64_w, i32_w]; rfl)
                    refine pure_ (i := 36) (N := some 136) (v := ?_) (a' := ?_) (stickfullaw14_FillCovers.bm 45 137438953471) rfl rfl (any_of HT_.out (by kernel_rfl)) (fun _ _ _ h => h) (Or.inl ⟨by rfl, ?_⟩) ?_ ?_
                    rotate_left; (focus intro w'; go_simp; with_reducible rfl); rotate_left; (focus simp only [Act.put, List.setIfInBounds_toArray, List.set_cons_zero, List.set_cons_succ, i64_w, i32_w]; rfl)
                    refine pure_ (i := 37) (N := some 137) (v := ?_) (a' := ?_) (stickfullaw14_FillCovers.bm 45 274877906943) rfl rfl (any_of HT_.out (by kernel_rfl)) (fun _ _ _ h => h) (Or.inl ⟨by rfl, ?_⟩) ?_ ?_
                    rotate_left; (focus intro w'; go_simp; with_reducible rfl); rotate_left; (focus simp only [Act.put, List.setIfInBounds_toArray, List.set_cons_zero, List.set_cons_succ, i64_w, i32_w]; rfl)
                    refine pure_ (i := 38) (N := some 138) (v := ?_) (a' := ?_) (stickfullaw14_FillCovers.bm 45 549755813887) rfl rfl (any_of HT_.out (by kernel_rfl)) (fun _ _ _ h => h) (Or.inl ⟨by rfl, ?_⟩) ?_ ?_
                    rotate_left; (focus intro w'; go_simp; with_reducible rfl); rotate_left; (focus simp only [Act.put, List.setIfInBounds_toArray, List.set_cons_zero, List.set_cons_succ, i64_w, i32_w]; rfl)
                    refine pure_ (i := 39) (N := some 139) (v := ?_) (a' := ?_) (stickfullaw14_FillCovers.bm 45 1099511627775) rfl rfl (any_of HT_.out (by kernel_rfl)) (fun _ _ _ h => h) (Or.inl ⟨by rfl, ?_⟩) ?_ ?_
                    rotate_left; (focus intro w'; go_simp; with_reducible rfl); rotate_left; (focus simp only [Act.put, List.setIfInBounds_toArray, List.set_cons_zero, List.set_cons_succ, i64_w, i32_w]; rfl)
                    refine pure_ (i := 40) (N := some 140) (v := ?_) (a' := ?_) (stickfullaw14_FillCovers.bm 45 2199023255551) rfl rfl (any_of HT_.out (by kernel_rfl)) (fun _ _ _ h => h) (Or.inl ⟨by rfl, ?_⟩) ?_ ?_
                    rotate_left; (focus intro w'; go_simp; with_reducible rfl); rotate_left; (focus simp only [Act.put, List.setIfInBounds_toArray, List.set_cons_zero, List.set_cons_succ, i64_w, i32_w]; rfl)
                    refine pure_ (i := 41) (N := some 141) (v := undef) (a' := ?_) (stickfullaw14_FillCovers.bm 45 4398046511103) rfl rfl (any_of HT_.out (by kernel_rfl)) (fun _ _ _ h => h) (Or.inr ⟨by rfl, rfl⟩) ?_ ?_
                    rotate_left; (focus simp only [Act.put, List.setIfInBounds_toArray, List.set_cons_zero, List.set_cons_succ, i64_w, i32_w]; rfl)
                    refine pure_ (i := 42) (N := some 142) (v := undef) (a' := ?_) (stickfullaw14_FillCovers.bm 45 8796093022207) rfl rfl (any_of HT_.out (by kernel_rfl)) (fun _ _ _ h => h) (Or.inr ⟨by rfl, rfl⟩) ?_ ?_
                    rotate_left; (focus simp only [Act.put, List.setIfInBounds_toArray, List.set_cons_zero, List.set_cons_succ, i64_w, i32_w]; rfl)
                    refine pure_ (i := 43) (N := some 143) (v := ?_) (a' := ?_) (stickfullaw14_FillCovers.bm 45 17592186044415) rfl rfl (any_of HT_.out (by kernel_rfl)) (fun _ _ _ h => h) (Or.inl ⟨by rfl, ?_⟩) ?_ ?_
                    rotate_left; (focus intro w'; go_simp; with_reducible rfl); rotate_left; (focus simp only [Act.put, List.setIfInBounds_toArray, List.set_cons_zero, List.set_cons_succ, i64_w, i32_w]; rfl)
                    refine pure_ (i := 44) (N := some 144) (v := ?_) (a' := ?_) (stickfullaw14_FillCovers.bm 45 35184372088831) rfl rfl (any_of HT_.out (by kernel_rfl)) (fun _ _ _ h => h) (Or.inl ⟨by rfl, ?_⟩) ?_ ?_
                    rotate_left; (focus intro w'; go_simp; with_reducible rfl); rotate_left; (focus simp only [Act.put, List.setIfInBounds_toArray, List.set_cons_zero, List.set_cons_succ, i64_w, i32_w]; rfl)
                    refine done_ (done_of HT_.out (by kernel_rfl)) ?_
                    have hnb92 := NB257_247.out
                    have hnc92 := NB247_257.out
                    have hnb93 := NB257_248.out
                    have hnc93 := NB248_257.out
                    obtain ⟨hcz94_0, hcz94_1, hcz94_2⟩ := cz3 BK257
                    obtain ⟨hfz94_0, hfz94_1, hfz94_2⟩ := fz3 BK257
                    try go_wp2
                    go_roundg kj45
                    case measure => have := HK1.out; have := HJ18.out; have := HJ45.out; omega
                    case rel => exact ⟨(((rd_T35 t250 x10_1).f1)), (wrap64 (x10_1 + 1)), (by first | rfl | (simp; done) | (simp [*]; done)), (by first | rfl | (simp; done) | (simp [*]; done)), H', ⟨by have := HK1.out; have := HJ18.out; have := HJ45.out; omega⟩, ⟨by (with_reducible repeat (first | apply Kd.R_alloc | apply Kd.R_drewN | apply Kd.R_drew)); exact Kd.R_mono HO_7.out (fun _ hk => trivial)⟩, ⟨by (with_reducible repeat (first | refine blk_drewN ?_ _ | refine blk_drew ?_ | refine blk_alloc ?_ _)); exact BK247.out⟩, ⟨by (with_reducible repeat (first | refine blk_drewN ?_ _ | refine blk_drew ?_ | refine blk_alloc ?_ _)); exact BK248.out⟩, ⟨by repeat (first | (with_reducible first | exact HB.out | apply below_alloc | apply pw_below_drewN | apply below_drew1 | refine below_set ?_ GE247.out | refine below_set ?_ GE248.out | refine below_set ?_ GE257.out) | exact HB.out)⟩⟩
                 ·rw [if_neg c79] at H
                  exact absurd H (by simp)
                ·rw [if_neg c78] at H
                 exact absurd H (by simp)
               ·rw [if_neg c77] at H
                exact absurd H (by simp)
             ·rw [if_neg c65] at H
              have c65b0 : decide ((wrap64 (x10_1 + 1)) < (t250.length : Int)) = false := decide_eq_false c65
              clear c65
              by_cases c95 : ((rd_T35 t250 x10_1).f2) = true
              ·rw [if_pos c95] at H
               have c95b0 : ((rd_T35 t250 x10_1).f2) = true := c95
               clear c95
               obtain ⟨ji96, hji96⟩ : ∃ j_ : Int, (wrap64 ((t258.length : Int) - 1)) = j_ := ⟨_, rfl⟩
               replace H : (if 0 ≤ (ji96) then (if (ji96) < (t258.length : Int) then (if ((rd_T35 t250 x10_1).f1) = (rd t258 (ji96)) then (if (wrap64 (x10_1 + 1)) = (t250.length : Int) then (some false) else (stickfullaw14_FillCovers.l0 kj45 l0 t250 ((rd_T35 t250 x10_1).f1) (wrap64 (x10_1 + 1)))) else (some false)) else (none)) else (none)) = some r := by first | (rw [hji96] at H; exact H) | (simp only [hji96] at H ⊢; exact H)
               have hji96w : (IntKind.i64.wrap ((t258.length : Int) - 1)) = ji96 := (i64_w _).trans hji96
               by_cases c97 : 0 ≤ (ji96)
               ·rw [if_pos c97] at H
                have c97b0 : decide (0 ≤ (ji96)) = true := decide_eq_true c97
                clear c97
                by_cases c98 : (ji96) < (t258.length : Int)
                ·rw [if_pos c98] at H
                 have c98b0 : decide ((ji96) < (t258.length : Int)) = true := decide_eq_true c98
                 clear c98
                 by_cases c99 : ((rd_T35 t250 x10_1).f1) = (rd t258 (ji96))
                 ·rw [if_pos c99] at H
                  have c99b0 : (((rd_T35 t250 x10_1).f1) == (rd t258 (ji96))) = true := beq_iff_eq.mpr c99
                  have c99b1 : (((rd_T35 t250 x10_1).f1) != (rd t258 (ji96))) = false := bne_eq_false_iff_eq.mpr c99
                  clear c99
                  by_cases c100 : (wrap64 (x10_1 + 1)) = (t250.length : Int)
                  ·rw [if_pos c100] at H
                   have c100b0 : ((wrap64 (x10_1 + 1)) == (t250.length : Int)) = true := beq_iff_eq.mpr c100
                   have c100b1 : ((wrap64 (x10_1 + 1)) != (t250.length : Int)) = false := bne_eq_false_iff_eq.mpr c100
                   clear c100
                   exact absurd ((Option.some.inj H).trans HR_.out) (by decide)
                  ·rw [if_neg c100] at H
                   have c100b0 : ((wrap64 (x10_1 + 1)) == (t250.length : Int)) = false := beq_eq_false_iff_ne.mpr c100
                   have c100b1 : ((wrap64 (x10_1 + 1)) != (t250.length : Int)) = true := bne_iff_ne.mpr c100
                   have H' := Aside0.mk H
                   clear H
                   try go_wp2
                   replace HO_7 := Aside0.mk (Kd.R_drew HO_7.out)
                   replace HO_12 := Aside0.mk (Kd.R_drew HO_12.out)
                   replace BK247 := Aside0.mk (blk_drew BK247.out)
                   replace BK248 := Aside0.mk (blk_drew BK248.out)
                   replace BK257 := Aside0.mk (blk_drew BK257.out)
                   replace HB := Aside0.mk (below_drew1 HB.out)
                   obtain ⟨Ao102, co102, eo102⟩ := Kd.R_slice HO_12.out
                   (first | subst eo102 | (injection eo102 with f1_ f2_ f3_; have f4_ := f1_.symm; have f5_ := f3_.symm; clear f1_ f2_ f3_; subst f4_; subst f5_))
                   have p273 : 0 ≤ ((ji96) : Int) := of_decide_eq_true (by first | (with_reducible assumption) | assumption)
                   have q273 : (ji96) < (t258.length : Int) := of_decide_eq_true (by first | (with_reducible assumption) | assumption)
                   obtain ⟨ad273, e273, hx273_0⟩ := Kd.at_int (Kd.R_reads' HO_12.out).2.2 (ji96) p273 q273
                   cases e273
                   replace p273 := eq_true p273
                   replace q273 := eq_true q273
                   refine start_ (n := 45) (S := fun w' => w'.cell? ⟨gb257, 0, none⟩ = some (.int .i64 ((rd_T35 t250 x10_1).f0)) ∧ w'.cell? ⟨gb257, 1, none⟩ = some (.int .i64 ((rd_T35 t250 x10_1).f1)) ∧ w'.cell? ⟨gb257, 2, none⟩ = some (.bool ((rd_T35 t250 x10_1).f2)) ∧ w'.cell? (ad273.add ((ji96)).toNat) = some (.int .i64 (rd t258 (ji96)))) (ds := []) (stickfullaw14_FillCovers.bm 45 0) (by kernel_rfl) rfl rfl ⟨bc BK257 0, bc BK257 1, bc BK257 2, hx273_0⟩ (fun hHeld => ?_); refine with_tabW stickfullaw14_FillCovers.tab16 stickfullaw14_FillCovers.bits16 (fun HT_ HW_ => ?_)
                   generalize wc.drew = w101 at HO_7 HO_12 BK247 BK248 BK257 HB hx273_0 hHeld ⊢
                   refine pure_ (i := 0) (N := some 100) (v := ?_) (a' := ?_) (stickfullaw14_FillCovers.bm 45 1) rfl rfl (any_of HT_.out (by kernel_rfl)) (fun _ _ _ h => h) (Or.inl ⟨by rfl, ?_⟩) ?_ ?_
                   rotate_left; (focus intro w'; go_simp; with_reducible rfl); rotate_left; (focus simp only [Act.put, List.setIfInBounds_toArray, List.set_cons_zero, List.set_cons_succ, i64_w, i32_w]; rfl)
                   refine pure_ (i := 1) (N := some 101) (v := ?_) (a' := ?_) (stickfullaw14_FillCovers.bm 45 3) rfl rfl (any_of HT_.out (by kernel_rfl)) (fun _ _ _ h => h) (Or.inl ⟨by rfl, ?_⟩) ?_ ?_
                   rotate_left; (focus intro w'; go_simp; with_reducible rfl); rotate_left; (focus simp only [Act.put, List.setIfInBounds_toArray, List.set_cons_zero, List.set_cons_succ, i64_w, i32_w]; rfl)
                   refine pure_ (i := 2) (N := some 102) (v := ?_) (a' := ?_) (stickfullaw14_FillCovers.bm 45 7) rfl rfl (any_of HT_.out (by kernel_rfl)) (fun _ _ _ h => h) (Or.inl ⟨by rfl, ?_⟩) ?_ ?_
                   rotate_left; (focus intro w'; go_simp; with_reducible rfl); rotate_left; (focus simp only [Act.put, List.setIfInBounds_toArray, List.set_cons_zero, List.set_cons_succ, i64_w, i32_w]; rfl)
                   refine pure_ (i := 3) (N := some 103) (v := ?_) (a' := ?_) (stickfullaw14_FillCovers.bm 45 15) rfl rfl (any_of HT_.out (by kernel_rfl)) (fun _ _ _ h => h) (Or.inl ⟨by rfl, ?_⟩) ?_ ?_
                   rotate_left; (focus intro w'; go_simp; with_reducible rfl); rotate_left; (focus simp only [Act.put, List.setIfInBounds_toArray, List.set_cons_zero, List.set_cons_succ, i64_w, i32_w]; rfl)
                   refine pure_ (i := 4) (N := some 104) (v := ?_) (a' := ?_) (stickfullaw14_FillCovers.bm 45 31) rfl rfl (any_of HT_.out (by kernel_rfl)) (fun _ _ _ h => h) (Or.inl ⟨by rfl, ?_⟩) ?_ ?_
                   rotate_left; (focus intro w'; go_simp; with_reducible rfl); rotate_left; (focus simp only [Act.put, List.setIfInBounds_toArray, List.set_cons_zero, List.set_cons_succ, i64_w, i32_w]; rfl)
                   refine pure_ (i := 5) (N := some 105) (v := ?_) (a' := ?_) (stickfullaw14_FillCovers.bm 45 63) rfl rfl (any_of HT_.out (by kernel_rfl)) (fun _ _ _ h => h) (Or.inl ⟨by rfl, ?_⟩) ?_ ?_
                   rotate_left; (focus intro w'; go_simp; with_reducible rfl); rotate_left; (focus simp only [Act.put, List.setIfInBounds_toArray, List.set_cons_zero, List.set_cons_succ, i64_w, i32_w]; rfl)
                   refine pure_ (i := 6) (N := some 106) (v := undef) (a' := ?_) (stickfullaw14_FillCovers.bm 45 127) rfl rfl (any_of HT_.out (by kernel_rfl)) (fun _ _ _ h => h) (Or.inr ⟨by rfl, rfl⟩) ?_ ?_
                   rotate_left; (focus simp only [Act.put, List.setIfInBounds_toArray, List.set_cons_zero, List.set_cons_succ, i64_w, i32_w]; rfl)
                   refine pure_ (i := 7) (N := some 107) (v := undef) (a' := ?_) (stickfullaw14_FillCovers.bm 45 255) rfl rfl (any_of HT_.out (by kernel_rfl)) (fun _ _ _ h => h) (Or.inr ⟨by rfl, rfl⟩) ?_ ?_
                   rotate_left; (focus simp only [Act.put, List.setIfInBounds_toArray, List.set_cons_zero, List.set_cons_succ, i64_w, i32_w]; rfl)
                   refine pure_ (i := 8) (N := some 108) (v := undef) (a' := ?_) (stickfullaw14_FillCovers.bm 45 511) rfl rfl (any_of HT_.out (by kernel_rfl)) (fun _ _ _ h => h) (Or.inr ⟨by rfl, rfl⟩) ?_ ?_
                   rotate_left; (focus simp only [Act.put, List.setIfInBounds_toArray, List.set_cons_zero, List.set_cons_succ, i64_w, i32_w]; rfl)
                   refine pure_ (i := 9) (N := some 109) (v := ?_) (a' := ?_) (stickfullaw14_FillCovers.bm 45 1023) rfl rfl (any_of HT_.out (by kernel_rfl)) (fun _ _ _ h => h) (Or.inl ⟨by rfl, ?_⟩) ?_ ?_
                   rotate_left; (focus intro w'; go_simp; with_reducible rfl); rotate_left; (focus simp only [Act.put, List.setIfInBounds_toArray, List.set_cons_zero, List.set_cons_succ, i64_w, i32_w]; rfl)
                   refine pure_ (i := 10) (N := some 110) (v := ?_) (a' := ?_) (stickfullaw14_FillCovers.bm 45 2047) rfl rfl (any_of HT_.out (by kernel_rfl)) (fun _ _ _ h => h) (Or.inl ⟨by rfl, ?_⟩) ?_ ?_
                   rotate_left; (focus intro w'; go_simp; with_reducible rfl); rotate_left; (focus simp only [Act.put, List.setIfInBounds_toArray, List.set_cons_zero, List.set_cons_succ, i64_w, i32_w]; rfl)
                   refine pure_ (i := 11) (N := some 111) (v := undef) (a' := ?_) (stickfullaw14_FillCovers.bm 45 4095) rfl rfl (any_of HT_.out (by kernel_rfl)) (fun _ _ _ h => h) (Or.inr ⟨by rfl, rfl⟩) ?_ ?_
                   rotate_left; (focus simp only [Act.put, List.setIfInBounds_toArray, List.set_cons_zero, List.set_cons_succ, i64_w, i32_w]; rfl)
                   refine pure_ (i := 12) (N := some 112) (v := undef) (a' := ?_) (stickfullaw14_FillCovers.bm 45 8191) rfl rfl (any_of HT_.out (by kernel_rfl)) (fun _ _ _ h => h) (Or.inr ⟨by rfl, rfl⟩) ?_ ?_
                   rotate_left; (focus simp only [Act.put, List.setIfInBounds_toArray, List.set_cons_zero, List.set_cons_succ, i64_w, i32_w]; rfl)
                   refine pure_ (i := 13) (N := some 113) (v := undef) (a' := ?_) (stickfullaw14_FillCovers.bm 45 16383) rfl rfl (any_of HT_.out (by kernel_rfl)) (fun _ _ _ h => h) (Or.inr ⟨by rfl, rfl⟩) ?_ ?_
                   rotate_left; (focus simp only [Act.put, List.setIfInBounds_toArray, List.set_cons_zero, List.set_cons_succ, i64_w, i32_w]; rfl)
                   refine pure_ (i := 14) (N := some 114) (v := undef) (a' := ?_) (stickfullaw14_FillCovers.bm 45 32767) rfl rfl (any_of HT_.out (by kernel_rfl)) (fun _ _ _ h => h) (Or.inr ⟨by rfl, rfl⟩) ?_ ?_
                   rotate_left; (focus simp only [Act.put, List.setIfInBounds_toArray, List.set_cons_zero, List.set_cons_succ, i64_w, i32_w]; rfl)
                   refine pure_ (i := 15) (N := some 115) (v := undef) (a' := ?_) (stickfullaw14_FillCovers.bm 45 65535) rfl rfl (any_of HT_.out (by kernel_rfl)) (fun _ _ _ h => h) (Or.inr ⟨by rfl, rfl⟩) ?_ ?_
                   rotate_left; (focus simp only [Act.put, List.setIfInBounds_toArray, List.set_cons_zero, List.set_cons_succ, i64_w, i32_w]; rfl)
                   refine pure_ (i := 16) (N := some 116) (v := undef) (a' := ?_) (stickfullaw14_FillCovers.bm 45 131071) rfl rfl (any_of HT_.out (by kernel_rfl)) (fun _ _ _ h => h) (Or.inr ⟨by rfl, rfl⟩) ?_ ?_
                   rotate_left; (focus simp only [Act.put, List.setIfInBounds_toArray, List.set_cons_zero, List.set_cons_succ, i64_w, i32_w]; rfl)
                   refine pure_ (i := 17) (N := some 117) (v := undef) (a' := ?_) (stickfullaw14_FillCovers.bm 45 262143) rfl rfl (any_of HT_.out (by kernel_rfl)) (fun _ _ _ h => h) (Or.inr ⟨by rfl, rfl⟩) ?_ ?_
                   rotate_left; (focus simp only [Act.put, List.setIfInBounds_toArray, List.set_cons_zero, List.set_cons_succ, i64_w, i32_w]; rfl)
                   refine pure_ (i := 18) (N := some 118) (v := ?_) (a' := ?_) (stickfullaw14_FillCovers.bm 45 524287) rfl rfl (any_of HT_.out (by kernel_rfl)) (fun _ _ _ h => h) (Or.inl ⟨by rfl, ?_⟩) ?_ ?_
                   rotate_left; (focus intro w'; go_simp; with_reducible rfl); rotate_left; (focus simp only [Act.put, List.setIfInBounds_toArray, List.set_cons_zero, List.set_cons_succ, i64_w, i32_w]; rfl)
                   refine pure_ (i := 19) (N := some 119) (v := ?_) (a' := ?_) (stickfullaw14_FillCovers.bm 45 1048575) rfl rfl (any_of HT_.out (by kernel_rfl)) (fun _ _ _ h => h) (Or.inl ⟨by rfl, ?_⟩) ?_ ?_
                   rotate_left; (focus intro w'; go_simp; with_reducible rfl); rotate_left; (focus simp only [Act.put, List.setIfInBounds_toArray, List.set_cons_zero, List.set_cons_succ, i64_w, i32_w]; rfl)
                   refine pure_ (i := 20) (N := some 120) (v := ?_) (a' := ?_) (stickfullaw14_FillCovers.bm 45 2097151) rfl rfl (any_of HT_.out (by kernel_rfl)) (fun _ _ _ h => h) (Or.inl ⟨by rfl, ?_⟩) ?_ ?_
                   rotate_left; (focus intro w'; go_simp; with_reducible rfl); rotate_left; (focus simp only [Act.put, List.setIfInBounds_toArray, List.set_cons_zero, List.set_cons_succ, i64_w, i32_w]; rfl)
                   refine take_ (i := 21) (N := some 121) (v := ?_) (a' := ?_) (stickfullaw14_FillCovers.bm 45 4194303) rfl rfl (take_ofW HT_.out HW_.out (by kernel_rfl)) (fun _ _ _ h => h) (Or.inl ⟨by rfl, ?_⟩) hHeld ?_ ?_
                   rotate_left; (focus rintro w' ⟨s0, s1, s2, s3⟩; go_simp; with_reducible rfl); rotate_left; (focus simp only [Act.put, List.setIfInBounds_toArray, List.set_cons_zero, List.set_cons_succ, i64_w, i32_w]; rfl)
                   refine pure_ (i := 22) (N := some 122) (v := ?_) (a' := ?_) (stickfullaw14_FillCovers.bm 45 8388607) rfl rfl (any_of HT_.out (by kernel_rfl)) (fun _ _ _ h => h) (Or.inl ⟨by rfl, ?_⟩) ?_ ?_
                   rotate_left; (focus intro w'; go_simp; with_reducible rfl); rotate_left; (focus simp only [Act.put, List.setIfInBounds_toArray, List.set_cons_zero, List.set_cons_succ, i64_w, i32_w]; rfl)
                   refine pure_ (i := 23) (N := some 123) (v := ?_) (a' := ?_) (stickfullaw14_FillCovers.bm 45 16777215) rfl rfl (any_of HT_.out (by kernel_rfl)) (fun _ _ _ h => h) (Or.inl ⟨by rfl, ?_⟩) ?_ ?_
                   rotate_left; (focus intro w'; go_simp; with_reducible rfl); rotate_left; (focus simp only [Act.put, List.setIfInBounds_toArray, List.set_cons_zero, List.set_cons_succ, i64_w, i32_w]; rfl)
                   refine pure_ (i := 25) (N := some 125) (v := ?_) (a' := ?_) (stickfullaw14_FillCovers.bm 45 50331647) rfl rfl (any_of HT_.out (by kernel_rfl)) (fun _ _ _ h => h) (Or.inl ⟨by rfl, ?_⟩) ?_ ?_
                   rotate_left; (focus intro w'; go_simp; with_reducible rfl); rotate_left; (focus simp only [Act.put, List.setIfInBounds_toArray, List.set_cons_zero, List.set_cons_succ, i64_w, i32_w]; rfl)
                   refine pure_ (i := 26) (N := some 126) (v := ?_) (a' := ?_) (stickfullaw14_FillCovers.bm 45 117440511) rfl rfl (any_of HT_.out (by kernel_rfl)) (fun _ _ _ h => h) (Or.inl ⟨by rfl, ?_⟩) ?_ ?_
                   rotate_left; (focus intro w'; go_simp; with_reducible rfl); rotate_left; (focus simp only [Act.put, List.setIfInBounds_toArray, List.set_cons_zero, List.set_cons_succ, i64_w, i32_w]; rfl)
                   refine pure_ (i := 27) (N := some 127) (v := ?_) (a' := ?_) (stickfullaw14_FillCovers.bm 45 251658239) rfl rfl (any_of HT_.out (by kernel_rfl)) (fun _ _ _ h => h) (Or.inl ⟨by rfl, ?_⟩) ?_ ?_
                   rotate_left; (focus intro w'; go_simp; with_reducible rfl); rotate_left; (focus simp only [Act.put, List.setIfInBounds_toArray, List.set_cons_zero, List.set_cons_succ, i64_w, i32_w]; rfl)
                   refine pure_ (i := 28) (N := some 128) (v := ?_) (a' := ?_) (stickfullaw14_FillCovers.bm 45 520093695) rfl rfl (any_of HT_.out (by kernel_rfl)) (fun _ _ _ h => h) (Or.inl ⟨by rfl, ?_⟩) ?_ ?_
                   rotate_left; (focus intro w'; go_simp; with_reducible rfl); rotate_left; (focus simp only [Act.put, List.setIfInBounds_toArray, List.set_cons_zero, List.set_cons_succ, i64_w, i32_w]; rfl)
                   refine pure_ (i := 29) (N := some 129) (v := ?_) (a' := ?_) (stickfullaw14_FillCovers.bm 45 1056964607) rfl rfl (any_of HT_.out (by kernel_rfl)) (fun _ _ _ h => h) (Or.inl ⟨by rfl, ?_⟩) ?_ ?_
                   rotate_left; (focus intro w'; go_simp; with_reducible rfl); rotate_left; (focus simp only [Act.put, List.setIfInBounds_toArray, List.set_cons_zero, List.set_cons_succ, i64_w, i32_w]; rfl)
                   refine take_ (i := 24) (N := some 124) (v := ?_) (a' := ?_) (stickfullaw14_FillCovers.bm 45 1073741823) rfl rfl (take_ofW HT_.out HW_.out (by kernel_rfl)) (fun _ _ _ h => h) (Or.inl ⟨by rfl, ?_⟩) hHeld ?_ ?_
                   rotate_left; (focus rintro w' ⟨s0, s1, s2, s3⟩; go_simp; with_reducible rfl); rotate_left; (focus simp only [Act.put, List.setIfInBounds_toArray, List.set_cons_zero, List.set_cons_succ, i64_w, i32_w]; rfl)
                   refine take_ (i := 30) (N := some 130) (v := ?_) (a' := ?_) (stickfullaw14_FillCovers.bm 45 2147483647) rfl rfl (take_ofW HT_.out HW_.out (by kernel_rfl)) (fun _ _ _ h => h) (Or.inl ⟨by rfl, ?_⟩) hHeld ?_ ?_
                   rotate_left; (focus rintro w' ⟨s0, s1, s2, s3⟩; go_simp; with_reducible rfl); rotate_left; (focus simp only [Act.put, List.setIfInBounds_toArray, List.set_cons_zero, List.set_cons_succ, i64_w, i32_w]; rfl)
                   refine pure_ (i := 31) (N := some 131) (v := ?_) (a' := ?_) (stickfullaw14_FillCovers.bm 45 4294967295) rfl rfl (any_of HT_.out (by kernel_rfl)) (fun _ _ _ h => h) (Or.inl ⟨by rfl, ?_⟩) ?_ ?_
                   rotate_left; (focus intro w'; go_simp; with_reducible rfl); rotate_left; (focus simp only [Act.put, List.setIfInBounds_toArray, List.set_cons_zero, List.set_cons_succ, i64_w, i32_w]; rfl)
                   refine pure_ (i := 32) (N := some 132) (v := ?_) (a' := ?_) (stickfullaw14_FillCovers.bm 45 8589934591) rfl rfl (any_of HT_.out (by kernel_rfl)) (fun _ _ _ h => h) (Or.inl ⟨by rfl, ?_⟩) ?_ ?_
                   rotate_left; (focus intro w'; go_simp; with_reducible rfl); rotate_left; (focus simp only [Act.put, List.setIfInBounds_toArray, List.set_cons_zero, List.set_cons_succ, i64_w, i32_w]; rfl)
                   refine pure_ (i := 33) (N := some 133) (v := ?_) (a' := ?_) (stickfullaw14_FillCovers.bm 45 17179869183) rfl rfl (any_of HT_.out (by kernel_rfl)) (fun _ _ _ h => h) (Or.inl ⟨by rfl, ?_⟩) ?_ ?_
                   rotate_left; (focus intro w'; go_simp; with_reducible rfl); rotate_left; (focus simp only [Act.put, List.setIfInBounds_toArray, List.set_cons_zero, List.set_cons_succ, i64_w, i32_w]; rfl)
                   refine pure_ (i := 34) (N := some 134) (v := ?_) (a' := ?_) (stickfullaw14_FillCovers.bm 45 34359738367) rfl rfl (any_of HT_.out (by kernel_rfl)) (fun _ _ _ h => h) (Or.inl ⟨by rfl, ?_⟩) ?_ ?_
                   rotate_left; (focus intro w'; go_simp; with_reducible rfl); rotate_left; (focus simp only [Act.put, List.setIfInBounds_toArray, List.set_cons_zero, List.set_cons_succ, i64_w, i32_w]; rfl)
                   refine pure_ (i := 35) (N := some 135) (v := ?_) (a' := ?_) (stickfullaw14_FillCovers.bm 45 68719476735) rfl rfl (any_of HT_.out (by kernel_rfl)) (fun _ _ _ h => h) (Or.inl ⟨by rfl, ?_⟩) ?_ ?_
                   rotate_left; (focus intro w'; go_simp; with_reducible rfl); rotate_left; (focus simp only [Act.put, List.setIfInBounds_toArray, List.set_cons_zero, List.set_cons_succ, i64_w, i32_w]; rfl)
                   refine pure_ (i := 36) (N := some 136) (v := ?_) (a' := ?_) (stickfullaw14_FillCovers.bm 45 137438953471) rfl rfl (any_of HT_.out (by kernel_rfl)) (fun _ _ _ h => h) (Or.inl ⟨by rfl, ?_⟩) ?_ ?_
                   rotate_left; (focus intro w'; go_simp; with_reducible rfl); rotate_left; (focus simp only [Act.put, List.setIfInBounds_toArray, List.set_cons_zero, List.set_cons_succ, i64_w, i32_w]; rfl)
                   refine pure_ (i := 37) (N := some 137) (v := ?_) (a' := ?_) (stickfullaw14_FillCovers.bm 45 274877906943) rfl rfl (any_of HT_.out (by kernel_rfl)) (fun _ _ _ h => h) (Or.inl ⟨by rfl, ?_⟩) ?_ ?_
                   rotate_left; (focus intro w'; go_simp; with_reducible rfl); rotate_left; (focus simp only [Act.put, List.setIfInBounds_toArray, List.set_cons_zero, List.set_cons_succ, i64_w, i32_w]; rfl)
                   refine pure_ (i := 38) (N := some 138) (v := ?_) (a' := ?_) (stickfullaw14_FillCovers.bm 45 549755813887) rfl rfl (any_of HT_.out (by kernel_rfl)) (fun _ _ _ h => h) (Or.inl ⟨by rfl, ?_⟩) ?_ ?_
                   rotate_left; (focus intro w'; go_simp; with_reducible rfl); rotate_left; (focus simp only [Act.put, List.setIfInBounds_toArray, List.set_cons_zero, List.set_cons_succ, i64_w, i32_w]; rfl)
                   refine pure_ (i := 39) (N := some 139) (v := ?_) (a' := ?_) (stickfullaw14_FillCovers.bm 45 1099511627775) rfl rfl (any_of HT_.out (by kernel_rfl)) (fun _ _ _ h => h) (Or.inl ⟨by rfl, ?_⟩) ?_ ?_
                   rotate_left; (focus intro w'; go_simp; with_reducible rfl); rotate_left; (focus simp only [Act.put, List.setIfInBounds_toArray, List.set_cons_zero, List.set_cons_succ, i64_w, i32_w]; rfl)
                   refine pure_ (i := 40) (N := some 140) (v := ?_) (a' := ?_) (stickfullaw14_FillCovers.bm 45 2199023255551) rfl rfl (any_of HT_.out (by kernel_rfl)) (fun _ _ _ h => h) (Or.inl ⟨by rfl, ?_⟩) ?_ ?_
                   rotate_left; (focus intro w'; go_simp; with_reducible rfl); rotate_left; (focus simp only [Act.put, List.setIfInBounds_toArray, List.set_cons_zero, List.set_cons_succ, i64_w, i32_w]; rfl)
                   refine pure_ (i := 41) (N := some 141) (v := undef) (a' := ?_) (stickfullaw14_FillCovers.bm 45 4398046511103) rfl rfl (any_of HT_.out (by kernel_rfl)) (fun _ _ _ h => h) (Or.inr ⟨by rfl, rfl⟩) ?_ ?_
                   rotate_left; (focus simp only [Act.put, List.setIfInBounds_toArray, List.set_cons_zero, List.set_cons_succ, i64_w, i32_w]; rfl)
                   refine pure_ (i := 42) (N := some 142) (v := undef) (a' := ?_) (stickfullaw14_FillCovers.bm 45 8796093022207) rfl rfl (any_of HT_.out (by kernel_rfl)) (fun _ _ _ h => h) (Or.inr ⟨by rfl, rfl⟩) ?_ ?_
                   rotate_left; (focus simp only [Act.put, List.setIfInBounds_toArray, List.set_cons_zero, List.set_cons_succ, i64_w, i32_w]; rfl)
                   refine pure_ (i := 43) (N := some 143) (v := ?_) (a' := ?_) (stickfullaw14_FillCovers.bm 45 17592186044415) rfl rfl (any_of HT_.out (by kernel_rfl)) (fun _ _ _ h => h) (Or.inl ⟨by rfl, ?_⟩) ?_ ?_
                   rotate_left; (focus intro w'; go_simp; with_reducible rfl); rotate_left; (focus simp only [Act.put, List.setIfInBounds_toArray, List.set_cons_zero, List.set_cons_succ, i64_w, i32_w]; rfl)
                   refine pure_ (i := 44) (N := some 144) (v := ?_) (a' := ?_) (stickfullaw14_FillCovers.bm 45 35184372088831) rfl rfl (any_of HT_.out (by kernel_rfl)) (fun _ _ _ h => h) (Or.inl ⟨by rfl, ?_⟩) ?_ ?_
                   rotate_left; (focus intro w'; go_simp; with_reducible rfl); rotate_left; (focus simp only [Act.put, List.setIfInBounds_toArray, List.set_cons_zero, List.set_cons_succ, i64_w, i32_w]; rfl)
                   refine done_ (done_of HT_.out (by kernel_rfl)) ?_
                   have hnb103 := NB257_247.out
                   have hnc103 := NB247_257.out
                   have hnb104 := NB257_248.out
                   have hnc104 := NB248_257.out
                   obtain ⟨hcz105_0, hcz105_1, hcz105_2⟩ := cz3 BK257
                   obtain ⟨hfz105_0, hfz105_1, hfz105_2⟩ := fz3 BK257
                   try go_wp2
                   go_roundg kj45
                   case measure => have := HK1.out; have := HJ18.out; have := HJ45.out; omega
                   case rel => exact ⟨(((rd_T35 t250 x10_1).f1)), (wrap64 (x10_1 + 1)), (by first | rfl | (simp; done) | (simp [*]; done)), (by first | rfl | (simp; done) | (simp [*]; done)), H', ⟨by have := HK1.out; have := HJ18.out; have := HJ45.out; omega⟩, ⟨by (with_reducible repeat (first | apply Kd.R_alloc | apply Kd.R_drewN | apply Kd.R_drew)); exact Kd.R_mono HO_7.out (fun _ hk => trivial)⟩, ⟨by (with_reducible repeat (first | refine blk_drewN ?_ _ | refine blk_drew ?_ | refine blk_alloc ?_ _)); exact BK247.out⟩, ⟨by (with_reducible repeat (first | refine blk_drewN ?_ _ | refine blk_drew ?_ | refine blk_alloc ?_ _)); exact BK248.out⟩, ⟨by repeat (first | (with_reducible first | exact HB.out | apply below_alloc | apply pw_below_drewN | apply below_drew1 | refine below_set ?_ GE247.out | refine below_set ?_ GE248.out | refine below_set ?_ GE257.out) | exact HB.out)⟩⟩
                 ·rw [if_neg c99] at H
                  have c99b0 : (((rd_T35 t250 x10_1).f1) == (rd t258 (ji96))) = false := beq_eq_false_iff_ne.mpr c99
                  have c99b1 : (((rd_T35 t250 x10_1).f1) != (rd t258 (ji96))) = true := bne_iff_ne.mpr c99
                  exact absurd ((Option.some.inj H).trans HR_.out) (by decide)
                ·rw [if_neg c98] at H
                 exact absurd H (by simp)
               ·rw [if_neg c97] at H
                exact absurd H (by simp)
              ·rw [if_neg c95] at H
               have c95b0 : ((rd_T35 t250 x10_1).f2) = false := by simpa using c95
               clear c95
               by_cases c106 : (wrap64 (x10_1 + 1)) = (t250.length : Int)
               ·rw [if_pos c106] at H
                have c106b0 : ((wrap64 (x10_1 + 1)) == (t250.length : Int)) = true := beq_iff_eq.mpr c106
                have c106b1 : ((wrap64 (x10_1 + 1)) != (t250.length : Int)) = false := bne_eq_false_iff_eq.mpr c106
                clear c106
                have H' := Aside0.mk H
                clear H
                try go_wp2
                replace HO_7 := Aside0.mk (Kd.R_drew HO_7.out)
                replace HO_12 := Aside0.mk (Kd.R_drew HO_12.out)
                replace BK247 := Aside0.mk (blk_drew BK247.out)
                replace BK248 := Aside0.mk (blk_drew BK248.out)
                replace BK257 := Aside0.mk (blk_drew BK257.out)
                replace HB := Aside0.mk (below_drew1 HB.out)
                refine start_ (n := 45) (S := fun w' => w'.cell? ⟨gb257, 0, none⟩ = some (.int .i64 ((rd_T35 t250 x10_1).f0)) ∧ w'.cell? ⟨gb257, 1, none⟩ = some (.int .i64 ((rd_T35 t250 x10_1).f1)) ∧ w'.cell? ⟨gb257, 2, none⟩ = some (.bool ((rd_T35 t250 x10_1).f2))) (ds := []) (stickfullaw14_FillCovers.bm 45 0) (by kernel_rfl) rfl rfl ⟨bc BK257 0, bc BK257 1, bc BK257 2⟩ (fun hHeld => ?_); refine with_tabW stickfullaw14_FillCovers.tab16 stickfullaw14_FillCovers.bits16 (fun HT_ HW_ => ?_)
                generalize wc.drew = w107 at HO_7 HO_12 BK247 BK248 BK257 HB hHeld ⊢
                refine pure_ (i := 0) (N := some 100) (v := ?_) (a' := ?_) (stickfullaw14_FillCovers.bm 45 1) rfl rfl (any_of HT_.out (by kernel_rfl)) (fun _ _ _ h => h) (Or.inl ⟨by rfl, ?_⟩) ?_ ?_
                rotate_left; (focus intro w'; go_simp; with_reducible rfl); rotate_left; (focus simp only [Act.put, List.setIfInBounds_toArray, List.set_cons_zero, List.set_cons_succ, i64_w, i32_w]; rfl)
                refine pure_ (i := 1) (N := some 101) (v := ?_) (a' := ?_) (stickfullaw14_FillCovers.bm 45 3) rfl rfl (any_of HT_.out (by kernel_rfl)) (fun _ _ _ h => h) (Or.inl ⟨by rfl, ?_⟩) ?_ ?_
                rotate_left; (focus intro w'; go_simp; with_reducible rfl); rotate_left; (focus simp only [Act.put, List.setIfInBounds_toArray, List.set_cons_zero, List.set_cons_succ, i64_w, i32_w]; rfl)
                refine pure_ (i := 2) (N := some 102) (v := ?_) (a' := ?_) (stickfullaw14_FillCovers.bm 45 7) rfl rfl (any_of HT_.out (by kernel_rfl)) (fun _ _ _ h => h) (Or.inl ⟨by rfl, ?_⟩) ?_ ?_
                rotate_left; (focus intro w'; go_simp; with_reducible rfl); rotate_left; (focus simp only [Act.put, List.setIfInBounds_toArray, List.set_cons_zero, List.set_cons_succ, i64_w, i32_w]; rfl)
                refine pure_ (i := 3) (N := some 103) (v := ?_) (a' := ?_) (stickfullaw14_FillCovers.bm 45 15) rfl rfl (any_of HT_.out (by kernel_rfl)) (fun _ _ _ h => h) (Or.inl ⟨by rfl, ?_⟩) ?_ ?_
                rotate_left; (focus intro w'; go_simp; with_reducible rfl); rotate_left; (focus simp only [Act.put, List.setIfInBounds_toArray, List.set_cons_zero, List.set_cons_succ, i64_w, i32_w]; rfl)
                refine pure_ (i := 4) (N := some 104) (v := ?_) (a' := ?_) (stickfullaw14_FillCovers.bm 45 31) rfl rfl (any_of HT_.out (by kernel_rfl)) (fun _ _ _ h => h) (Or.inl ⟨by rfl, ?_⟩) ?_ ?_
                rotate_left; (focus intro w'; go_simp; with_reducible rfl); rotate_left; (focus simp only [Act.put, List.setIfInBounds_toArray, List.set_cons_zero, List.set_cons_succ, i64_w, i32_w]; rfl)
                refine pure_ (i := 5) (N := some 105) (v := ?_) (a' := ?_) (stickfullaw14_FillCovers.bm 45 63) rfl rfl (any_of HT_.out (by kernel_rfl)) (fun _ _ _ h => h) (Or.inl ⟨by rfl, ?_⟩) ?_ ?_
                rotate_left; (focus intro w'; go_simp; with_reducible rfl); rotate_left; (focus simp only [Act.put, List.setIfInBounds_toArray, List.set_cons_zero, List.set_cons_succ, i64_w, i32_w]; rfl)
                refine pure_ (i := 6) (N := some 106) (v := undef) (a' := ?_) (stickfullaw14_FillCovers.bm 45 127) rfl rfl (any_of HT_.out (by kernel_rfl)) (fun _ _ _ h => h) (Or.inr ⟨by rfl, rfl⟩) ?_ ?_
                rotate_left; (focus simp only [Act.put, List.setIfInBounds_toArray, List.set_cons_zero, List.set_cons_succ, i64_w, i32_w]; rfl)
                refine pure_ (i := 7) (N := some 107) (v := undef) (a' := ?_) (stickfullaw14_FillCovers.bm 45 255) rfl rfl (any_of HT_.out (by kernel_rfl)) (fun _ _ _ h => h) (Or.inr ⟨by rfl, rfl⟩) ?_ ?_
                rotate_left; (focus simp only [Act.put, List.setIfInBounds_toArray, List.set_cons_zero, List.set_cons_succ, i64_w, i32_w]; rfl)
                refine pure_ (i := 8) (N := some 108) (v := undef) (a' := ?_) (stickfullaw14_FillCovers.bm 45 511) rfl rfl (any_of HT_.out (by kernel_rfl)) (fun _ _ _ h => h) (Or.inr ⟨by rfl, rfl⟩) ?_ ?_
                rotate_left; (focus simp only [Act.put, List.setIfInBounds_toArray, List.set_cons_zero, List.set_cons_succ, i64_w, i32_w]; rfl)
                refine pure_ (i := 9) (N := some 109) (v := ?_) (a' := ?_) (stickfullaw14_FillCovers.bm 45 1023) rfl rfl (any_of HT_.out (by kernel_rfl)) (fun _ _ _ h => h) (Or.inl ⟨by rfl, ?_⟩) ?_ ?_
                rotate_left; (focus intro w'; go_simp; with_reducible rfl); rotate_left; (focus simp only [Act.put, List.setIfInBounds_toArray, List.set_cons_zero, List.set_cons_succ, i64_w, i32_w]; rfl)
                refine pure_ (i := 10) (N := some 110) (v := ?_) (a' := ?_) (stickfullaw14_FillCovers.bm 45 2047) rfl rfl (any_of HT_.out (by kernel_rfl)) (fun _ _ _ h => h) (Or.inl ⟨by rfl, ?_⟩) ?_ ?_
                rotate_left; (focus intro w'; go_simp; with_reducible rfl); rotate_left; (focus simp only [Act.put, List.setIfInBounds_toArray, List.set_cons_zero, List.set_cons_succ, i64_w, i32_w]; rfl)
                refine pure_ (i := 11) (N := some 111) (v := undef) (a' := ?_) (stickfullaw14_FillCovers.bm 45 4095) rfl rfl (any_of HT_.out (by kernel_rfl)) (fun _ _ _ h => h) (Or.inr ⟨by rfl, rfl⟩) ?_ ?_
                rotate_left; (focus simp only [Act.put, List.setIfInBounds_toArray, List.set_cons_zero, List.set_cons_succ, i64_w, i32_w]; rfl)
                refine pure_ (i := 12) (N := some 112) (v := undef) (a' := ?_) (stickfullaw14_FillCovers.bm 45 8191) rfl rfl (any_of HT_.out (by kernel_rfl)) (fun _ _ _ h => h) (Or.inr ⟨by rfl, rfl⟩) ?_ ?_
                rotate_left; (focus simp only [Act.put, List.setIfInBounds_toArray, List.set_cons_zero, List.set_cons_succ, i64_w, i32_w]; rfl)
                refine pure_ (i := 13) (N := some 113) (v := undef) (a' := ?_) (stickfullaw14_FillCovers.bm 45 16383) rfl rfl (any_of HT_.out (by kernel_rfl)) (fun _ _ _ h => h) (Or.inr ⟨by rfl, rfl⟩) ?_ ?_
                rotate_left; (focus simp only [Act.put, List.setIfInBounds_toArray, List.set_cons_zero, List.set_cons_succ, i64_w, i32_w]; rfl)
                refine pure_ (i := 14) (N := some 114) (v := undef) (a' := ?_) (stickfullaw14_FillCovers.bm 45 32767) rfl rfl (any_of HT_.out (by kernel_rfl)) (fun _ _ _ h => h) (Or.inr ⟨by rfl, rfl⟩) ?_ ?_
                rotate_left; (focus simp only [Act.put, List.setIfInBounds_toArray, List.set_cons_zero, List.set_cons_succ, i64_w, i32_w]; rfl)
                refine pure_ (i := 15) (N := some 115) (v := undef) (a' := ?_) (stickfullaw14_FillCovers.bm 45 65535) rfl rfl (any_of HT_.out (by kernel_rfl)) (fun _ _ _ h => h) (Or.inr ⟨by rfl, rfl⟩) ?_ ?_
                rotate_left; (focus simp only [Act.put, List.setIfInBounds_toArray, List.set_cons_zero, List.set_cons_succ, i64_w, i32_w]; rfl)
                refine pure_ (i := 16) (N := some 116) (v := undef) (a' := ?_) (stickfullaw14_FillCovers.bm 45 131071) rfl rfl (any_of HT_.out (by kernel_rfl)) (fun _ _ _ h => h) (Or.inr ⟨by rfl, rfl⟩) ?_ ?_
                rotate_left; (focus simp only [Act.put, List.setIfInBounds_toArray, List.set_cons_zero, List.set_cons_succ, i64_w, i32_w]; rfl)
                refine pure_ (i := 17) (N := some 117) (v := undef) (a' := ?_) (stickfullaw14_FillCovers.bm 45 262143) rfl rfl (any_of HT_.out (by kernel_rfl)) (fun _ _ _ h => h) (Or.inr ⟨by rfl, rfl⟩) ?_ ?_
                rotate_left; (focus simp only [Act.put, List.setIfInBounds_toArray, List.set_cons_zero, List.set_cons_succ, i64_w, i32_w]; rfl)
                refine pure_ (i := 18) (N := some 118) (v := ?_) (a' := ?_) (stickfullaw14_FillCovers.bm 45 524287) rfl rfl (any_of HT_.out (by kernel_rfl)) (fun _ _ _ h => h) (Or.inl ⟨by rfl, ?_⟩) ?_ ?_
                rotate_left; (focus intro w'; go_simp; with_reducible rfl); rotate_left; (focus simp only [Act.put, List.setIfInBounds_toArray, List.set_cons_zero, List.set_cons_succ, i64_w, i32_w]; rfl)
                refine pure_ (i := 19) (N := some 119) (v := ?_) (a' := ?_) (stickfullaw14_FillCovers.bm 45 1048575) rfl rfl (any_of HT_.out (by kernel_rfl)) (fun _ _ _ h => h) (Or.inl ⟨by rfl, ?_⟩) ?_ ?_
                rotate_left; (focus intro w'; go_simp; with_reducible rfl); rotate_left; (focus simp only [Act.put, List.setIfInBounds_toArray, List.set_cons_zero, List.set_cons_succ, i64_w, i32_w]; rfl)
                refine pure_ (i := 20) (N := some 120) (v := ?_) (a' := ?_) (stickfullaw14_FillCovers.bm 45 2097151) rfl rfl (any_of HT_.out (by kernel_rfl)) (fun _ _ _ h => h) (Or.inl ⟨by rfl, ?_⟩) ?_ ?_
                rotate_left; (focus intro w'; go_simp; with_reducible rfl); rotate_left; (focus simp only [Act.put, List.setIfInBounds_toArray, List.set_cons_zero, List.set_cons_succ, i64_w, i32_w]; rfl)
                refine take_ (i := 21) (N := some 121) (v := ?_) (a' := ?_) (stickfullaw14_FillCovers.bm 45 4194303) rfl rfl (take_ofW HT_.out HW_.out (by kernel_rfl)) (fun _ _ _ h => h) (Or.inl ⟨by rfl, ?_⟩) hHeld ?_ ?_
                rotate_left; (focus rintro w' ⟨s0, s1, s2⟩; go_simp; with_reducible rfl); rotate_left; (focus simp only [Act.put, List.setIfInBounds_toArray, List.set_cons_zero, List.set_cons_succ, i64_w, i32_w]; rfl)
                refine pure_ (i := 22) (N := some 122) (v := ?_) (a' := ?_) (stickfullaw14_FillCovers.bm 45 8388607) rfl rfl (any_of HT_.out (by kernel_rfl)) (fun _ _ _ h => h) (Or.inl ⟨by rfl, ?_⟩) ?_ ?_
                rotate_left; (focus intro w'; go_simp; with_reducible rfl); rotate_left; (focus simp only [Act.put, List.setIfInBounds_toArray, List.set_cons_zero, List.set_cons_succ, i64_w, i32_w]; rfl)
                refine pure_ (i := 23) (N := some 123) (v := undef) (a' := ?_) (stickfullaw14_FillCovers.bm 45 16777215) rfl rfl (any_of HT_.out (by kernel_rfl)) (fun _ _ _ h => h) (Or.inr ⟨by rfl, rfl⟩) ?_ ?_
                rotate_left; (focus simp only [Act.put, List.setIfInBounds_toArray, List.set_cons_zero, List.set_cons_succ, i64_w, i32_w]; rfl)
                refine pure_ (i := 24) (N := some 124) (v := undef) (a' := ?_) (stickfullaw14_FillCovers.bm 45 33554431) rfl rfl (any_of HT_.out (by kernel_rfl)) (fun _ _ _ h => h) (Or.inr ⟨by rfl, rfl⟩) ?_ ?_
                rotate_left; (focus simp only [Act.put, List.setIfInBounds_toArray, List.set_cons_zero, List.set_cons_succ, i64_w, i32_w]; rfl)
                refine pure_ (i := 25) (N := some 125) (v := undef) (a' := ?_) (stickfullaw14_FillCovers.bm 45 67108863) rfl rfl (any_of HT_.out (by kernel_rfl)) (fun _ _ _ h => h) (Or.inr ⟨by rfl, rfl⟩) ?_ ?_
                rotate_left; (focus simp only [Act.put, List.setIfInBounds_toArray, List.set_cons_zero, List.set_cons_succ, i64_w, i32_w]; rfl)
                refine pure_ (i := 26) (N := some 126) (v := undef) (a' := ?_) (stickfullaw14_FillCovers.bm 45 134217727) rfl rfl (any_of HT_.out (by kernel_rfl)) (fun _ _ _ h => h) (Or.inr ⟨by rfl, rfl⟩) ?_ ?_
                rotate_left; (focus simp only [Act.put, List.setIfInBounds_toArray, List.set_cons_zero, List.set_cons_succ, i64_w, i32_w]; rfl)
                refine pure_ (i := 27) (N := some 127) (v := undef) (a' := ?_) (stickfullaw14_FillCovers.bm 45 268435455) rfl rfl (any_of HT_.out (by kernel_rfl)) (fun _ _ _ h => h) (Or.inr ⟨by rfl, rfl⟩) ?_ ?_
                rotate_left; (focus simp only [Act.put, List.setIfInBounds_toArray, List.set_cons_zero, List.set_cons_succ, i64_w, i32_w]; rfl)
                refine pure_ (i := 28) (N := some 128) (v := undef) (a' := ?_) (stickfullaw14_FillCovers.bm 45 536870911) rfl rfl (any_of HT_.out (by kernel_rfl)) (fun _ _ _ h => h) (Or.inr ⟨by rfl, rfl⟩) ?_ ?_
                rotate_left; (focus simp only [Act.put, List.setIfInBounds_toArray, List.set_cons_zero, List.set_cons_succ, i64_w, i32_w]; rfl)
                refine pure_ (i := 29) (N := some 129) (v := undef) (a' := ?_) (stickfullaw14_FillCovers.bm 45 1073741823) rfl rfl (any_of HT_.out (by kernel_rfl)) (fun _ _ _ h => h) (Or.inr ⟨by rfl, rfl⟩) ?_ ?_
                rotate_left; (focus simp only [Act.put, List.setIfInBounds_toArray, List.set_cons_zero, List.set_cons_succ, i64_w, i32_w]; rfl)
                refine pure_ (i := 30) (N := some 130) (v := undef) (a' := ?_) (stickfullaw14_FillCovers.bm 45 2147483647) rfl rfl (any_of HT_.out (by kernel_rfl)) (fun _ _ _ h => h) (Or.inr ⟨by rfl, rfl⟩) ?_ ?_
                rotate_left; (focus simp only [Act.put, List.setIfInBounds_toArray, List.set_cons_zero, List.set_cons_succ, i64_w, i32_w]; rfl)
                refine pure_ (i := 31) (N := some 131) (v := undef) (a' := ?_) (stickfullaw14_FillCovers.bm 45 4294967295) rfl rfl (any_of HT_.out (by kernel_rfl)) (fun _ _ _ h => h) (Or.inr ⟨by rfl, rfl⟩) ?_ ?_
                rotate_left; (focus simp only [Act.put, List.setIfInBounds_toArray, List.set_cons_zero, List.set_cons_succ, i64_w, i32_w]; rfl)
                refine pure_ (i := 32) (N := some 132) (v := ?_) (a' := ?_) (stickfullaw14_FillCovers.bm 45 8589934591) rfl rfl (any_of HT_.out (by kernel_rfl)) (fun _ _ _ h => h) (Or.inl ⟨by rfl, ?_⟩) ?_ ?_
                rotate_left; (focus intro w'; go_simp; with_reducible rfl); rotate_left; (focus simp only [Act.put, List.setIfInBounds_toArray, List.set_cons_zero, List.set_cons_succ, i64_w, i32_w]; rfl)
                refine pure_ (i := 33) (N := some 133) (v := ?_) (a' := ?_) (stickfullaw14_FillCovers.bm 45 17179869183) rfl rfl (any_of HT_.out (by kernel_rfl)) (fun _ _ _ h => h) (Or.inl ⟨by rfl, ?_⟩) ?_ ?_
                rotate_left; (focus intro w'; go_simp; with_reducible rfl); rotate_left; (focus simp only [Act.put, List.setIfInBounds_toArray, List.set_cons_zero, List.set_cons_succ, i64_w, i32_w]; rfl)
                refine pure_ (i := 34) (N := some 134) (v := ?_) (a' := ?_) (stickfullaw14_FillCovers.bm 45 34359738367) rfl rfl (any_of HT_.out (by kernel_rfl)) (fun _ _ _ h => h) (Or.inl ⟨by rfl, ?_⟩) ?_ ?_
                rotate_left; (focus intro w'; go_simp; with_reducible rfl); rotate_left; (focus simp only [Act.put, List.setIfInBounds_toArray, List.set_cons_zero, List.set_cons_succ, i64_w, i32_w]; rfl)
                refine pure_ (i := 35) (N := some 135) (v := ?_) (a' := ?_) (stickfullaw14_FillCovers.bm 45 68719476735) rfl rfl (any_of HT_.out (by kernel_rfl)) (fun _ _ _ h => h) (Or.inl ⟨by rfl, ?_⟩) ?_ ?_
                rotate_left; (focus intro w'; go_simp; with_reducible rfl); rotate_left; (focus simp only [Act.put, List.setIfInBounds_toArray, List.set_cons_zero, List.set_cons_succ, i64_w, i32_w]; rfl)
                refine pure_ (i := 36) (N := some 136) (v := ?_) (a' := ?_) (stickfullaw14_FillCovers.bm 45 137438953471) rfl rfl (any_of HT_.out (by kernel_rfl)) (fun _ _ _ h => h) (Or.inl ⟨by rfl, ?_⟩) ?_ ?_
                rotate_left; (focus intro w'; go_simp; with_reducible rfl); rotate_left; (focus simp only [Act.put, List.setIfInBounds_toArray, List.set_cons_zero, List.set_cons_succ, i64_w, i32_w]; rfl)
                refine pure_ (i := 37) (N := some 137) (v := ?_) (a' := ?_) (stickfullaw14_FillCovers.bm 45 274877906943) rfl rfl (any_of HT_.out (by kernel_rfl)) (fun _ _ _ h => h) (Or.inl ⟨by rfl, ?_⟩) ?_ ?_
                rotate_left; (focus intro w'; go_simp; with_reducible rfl); rotate_left; (focus simp only [Act.put, List.setIfInBounds_toArray, List.set_cons_zero, List.set_cons_succ, i64_w, i32_w]; rfl)
                refine pure_ (i := 38) (N := some 138) (v := ?_) (a' := ?_) (stickfullaw14_FillCovers.bm 45 549755813887) rfl rfl (any_of HT_.out (by kernel_rfl)) (fun _ _ _ h => h) (Or.inl ⟨by rfl, ?_⟩) ?_ ?_
                rotate_left; (focus intro w'; go_simp; with_reducible rfl); rotate_left; (focus simp only [Act.put, List.setIfInBounds_toArray, List.set_cons_zero, List.set_cons_succ, i64_w, i32_w]; rfl)
                refine pure_ (i := 39) (N := some 139) (v := ?_) (a' := ?_) (stickfullaw14_FillCovers.bm 45 1099511627775) rfl rfl (any_of HT_.out (by kernel_rfl)) (fun _ _ _ h => h) (Or.inl ⟨by rfl, ?_⟩) ?_ ?_
                rotate_left; (focus intro w'; go_simp; with_reducible rfl); rotate_left; (focus simp only [Act.put, List.setIfInBounds_toArray, List.set_cons_zero, List.set_cons_succ, i64_w, i32_w]; rfl)
                refine pure_ (i := 40) (N := some 140) (v := ?_) (a' := ?_) (stickfullaw14_FillCovers.bm 45 2199023255551) rfl rfl (any_of HT_.out (by kernel_rfl)) (fun _ _ _ h => h) (Or.inl ⟨by rfl, ?_⟩) ?_ ?_
                rotate_left; (focus intro w'; go_simp; with_reducible rfl); rotate_left; (focus simp only [Act.put, List.setIfInBounds_toArray, List.set_cons_zero, List.set_cons_succ, i64_w, i32_w]; rfl)
                refine pure_ (i := 41) (N := some 141) (v := ?_) (a' := ?_) (stickfullaw14_FillCovers.bm 45 4398046511103) rfl rfl (any_of HT_.out (by kernel_rfl)) (fun _ _ _ h => h) (Or.inl ⟨by rfl, ?_⟩) ?_ ?_
                rotate_left; (focus intro w'; go_simp; with_reducible rfl); rotate_left; (focus simp only [Act.put, List.setIfInBounds_toArray, List.set_cons_zero, List.set_cons_succ, i64_w, i32_w]; rfl)
                refine take_ (i := 42) (N := some 142) (v := ?_) (a' := ?_) (stickfullaw14_FillCovers.bm 45 8796093022207) rfl rfl (take_ofW HT_.out HW_.out (by kernel_rfl)) (fun _ _ _ h => h) (Or.inl ⟨by rfl, ?_⟩) hHeld ?_ ?_
                rotate_left; (focus rintro w' ⟨s0, s1, s2⟩; go_simp; with_reducible rfl); rotate_left; (focus simp only [Act.put, List.setIfInBounds_toArray, List.set_cons_zero, List.set_cons_succ, i64_w, i32_w]; rfl)
                refine pure_ (i := 43) (N := some 143) (v := ?_) (a' := ?_) (stickfullaw14_FillCovers.bm 45 17592186044415) rfl rfl (any_of HT_.out (by kernel_rfl)) (fun _ _ _ h => h) (Or.inl ⟨by rfl, ?_⟩) ?_ ?_
                rotate_left; (focus intro w'; go_simp; with_reducible rfl); rotate_left; (focus simp only [Act.put, List.setIfInBounds_toArray, List.set_cons_zero, List.set_cons_succ, i64_w, i32_w]; rfl)
                refine pure_ (i := 44) (N := some 144) (v := ?_) (a' := ?_) (stickfullaw14_FillCovers.bm 45 35184372088831) rfl rfl (any_of HT_.out (by kernel_rfl)) (fun _ _ _ h => h) (Or.inl ⟨by rfl, ?_⟩) ?_ ?_
                rotate_left; (focus intro w'; go_simp; with_reducible rfl); rotate_left; (focus simp only [Act.put, List.setIfInBounds_toArray, List.set_cons_zero, List.set_cons_succ, i64_w, i32_w]; rfl)
                refine done_ (done_of HT_.out (by kernel_rfl)) ?_
                have hnb108 := NB257_247.out
                have hnc108 := NB247_257.out
                have hnb109 := NB257_248.out
                have hnc109 := NB248_257.out
                obtain ⟨hcz110_0, hcz110_1, hcz110_2⟩ := cz3 BK257
                obtain ⟨hfz110_0, hfz110_1, hfz110_2⟩ := fz3 BK257
                try go_wp2
                go_roundg kj45
                case measure => have := HK1.out; have := HJ18.out; have := HJ45.out; omega
                case rel => exact ⟨(((rd_T35 t250 x10_1).f1)), (wrap64 (x10_1 + 1)), (by first | rfl | (simp; done) | (simp [*]; done)), (by first | rfl | (simp; done) | (simp [*]; done)), H', ⟨by have := HK1.out; have := HJ18.out; have := HJ45.out; omega⟩, ⟨by (with_reducible repeat (first | apply Kd.R_alloc | apply Kd.R_drewN | apply Kd.R_drew)); exact Kd.R_mono HO_7.out (fun _ hk => trivial)⟩, ⟨by (with_reducible repeat (first | refine blk_drewN ?_ _ | refine blk_drew ?_ | refine blk_alloc ?_ _)); exact BK247.out⟩, ⟨by (with_reducible repeat (first | refine blk_drewN ?_ _ | refine blk_drew ?_ | refine blk_alloc ?_ _)); exact BK248.out⟩, ⟨by repeat (first | (with_reducible first | exact HB.out | apply below_alloc | apply pw_below_drewN | apply below_drew1 | refine below_set ?_ GE247.out | refine below_set ?_ GE248.out | refine below_set ?_ GE257.out) | exact HB.out)⟩⟩
               ·rw [if_neg c106] at H
                have c106b0 : ((wrap64 (x10_1 + 1)) == (t250.length : Int)) = false := beq_eq_false_iff_ne.mpr c106
                have c106b1 : ((wrap64 (x10_1 + 1)) != (t250.length : Int)) = true := bne_iff_ne.mpr c106
                have H' := Aside0.mk H
                clear H
                try go_wp2
                replace HO_7 := Aside0.mk (Kd.R_drew HO_7.out)
                replace HO_12 := Aside0.mk (Kd.R_drew HO_12.out)
                replace BK247 := Aside0.mk (blk_drew BK247.out)
                replace BK248 := Aside0.mk (blk_drew BK248.out)
                replace BK257 := Aside0.mk (blk_drew BK257.out)
                replace HB := Aside0.mk (below_drew1 HB.out)
                refine start_ (n := 45) (S := fun w' => w'.cell? ⟨gb257, 0, none⟩ = some (.int .i64 ((rd_T35 t250 x10_1).f0)) ∧ w'.cell? ⟨gb257, 1, none⟩ = some (.int .i64 ((rd_T35 t250 x10_1).f1)) ∧ w'.cell? ⟨gb257, 2, none⟩ = some (.bool ((rd_T35 t250 x10_1).f2))) (ds := []) (stickfullaw14_FillCovers.bm 45 0) (by kernel_rfl) rfl rfl ⟨bc BK257 0, bc BK257 1, bc BK257 2⟩ (fun hHeld => ?_); refine with_tabW stickfullaw14_FillCovers.tab16 stickfullaw14_FillCovers.bits16 (fun HT_ HW_ => ?_)
                generalize wc.drew = w111 at HO_7 HO_12 BK247 BK248 BK257 HB hHeld ⊢
                refine pure_ (i := 0) (N := some 100) (v := ?_) (a' := ?_) (stickfullaw14_FillCovers.bm 45 1) rfl rfl (any_of HT_.out (by kernel_rfl)) (fun _ _ _ h => h) (Or.inl ⟨by rfl, ?_⟩) ?_ ?_
                rotate_left; (focus intro w'; go_simp; with_reducible rfl); rotate_left; (focus simp only [Act.put, List.setIfInBounds_toArray, List.set_cons_zero, List.set_cons_succ, i64_w, i32_w]; rfl)
                refine pure_ (i := 1) (N := some 101) (v := ?_) (a' := ?_) (stickfullaw14_FillCovers.bm 45 3) rfl rfl (any_of HT_.out (by kernel_rfl)) (fun _ _ _ h => h) (Or.inl ⟨by rfl, ?_⟩) ?_ ?_
                rotate_left; (focus intro w'; go_simp; with_reducible rfl); rotate_left; (focus simp only [Act.put, List.setIfInBounds_toArray, List.set_cons_zero, List.set_cons_succ, i64_w, i32_w]; rfl)
                refine pure_ (i := 2) (N := some 102) (v := ?_) (a' := ?_) (stickfullaw14_FillCovers.bm 45 7) rfl rfl (any_of HT_.out (by kernel_rfl)) (fun _ _ _ h => h) (Or.inl ⟨by rfl, ?_⟩) ?_ ?_
                rotate_left; (focus intro w'; go_simp; with_reducible rfl); rotate_left; (focus simp only [Act.put, List.setIfInBounds_toArray, List.set_cons_zero, List.set_cons_succ, i64_w, i32_w]; rfl)
                refine pure_ (i := 3) (N := some 103) (v := ?_) (a' := ?_) (stickfullaw14_FillCovers.bm 45 15) rfl rfl (any_of HT_.out (by kernel_rfl)) (fun _ _ _ h => h) (Or.inl ⟨by rfl, ?_⟩) ?_ ?_
                rotate_left; (focus intro w'; go_simp; with_reducible rfl); rotate_left; (focus simp only [Act.put, List.setIfInBounds_toArray, List.set_cons_zero, List.set_cons_succ, i64_w, i32_w]; rfl)
                refine pure_ (i := 4) (N := some 104) (v := ?_) (a' := ?_) (stickfullaw14_FillCovers.bm 45 31) rfl rfl (any_of HT_.out (by kernel_rfl)) (fun _ _ _ h => h) (Or.inl ⟨by rfl, ?_⟩) ?_ ?_
                rotate_left; (focus intro w'; go_simp; with_reducible rfl); rotate_left; (focus simp only [Act.put, List.setIfInBounds_toArray, List.set_cons_zero, List.set_cons_succ, i64_w, i32_w]; rfl)
                refine pure_ (i := 5) (N := some 105) (v := ?_) (a' := ?_) (stickfullaw14_FillCovers.bm 45 63) rfl rfl (any_of HT_.out (by kernel_rfl)) (fun _ _ _ h => h) (Or.inl ⟨by rfl, ?_⟩) ?_ ?_
                rotate_left; (focus intro w'; go_simp; with_reducible rfl); rotate_left; (focus simp only [Act.put, List.setIfInBounds_toArray, List.set_cons_zero, List.set_cons_succ, i64_w, i32_w]; rfl)
                refine pure_ (i := 6) (N := some 106) (v := undef) (a' := ?_) (stickfullaw14_FillCovers.bm 45 127) rfl rfl (any_of HT_.out (by kernel_rfl)) (fun _ _ _ h => h) (Or.inr ⟨by rfl, rfl⟩) ?_ ?_
                rotate_left; (focus simp only [Act.put, List.setIfInBounds_toArray, List.set_cons_zero, List.set_cons_succ, i64_w, i32_w]; rfl)
                refine pure_ (i := 7) (N := some 107) (v := undef) (a' := ?_) (stickfullaw14_FillCovers.bm 45 255) rfl rfl (any_of HT_.out (by kernel_rfl)) (fun _ _ _ h => h) (Or.inr ⟨by rfl, rfl⟩) ?_ ?_
                rotate_left; (focus simp only [Act.put, List.setIfInBounds_toArray, List.set_cons_zero, List.set_cons_succ, i64_w, i32_w]; rfl)
                refine pure_ (i := 8) (N := some 108) (v := undef) (a' := ?_) (stickfullaw14_FillCovers.bm 45 511) rfl rfl (any_of HT_.out (by kernel_rfl)) (fun _ _ _ h => h) (Or.inr ⟨by rfl, rfl⟩) ?_ ?_
                rotate_left; (focus simp only [Act.put, List.setIfInBounds_toArray, List.set_cons_zero, List.set_cons_succ, i64_w, i32_w]; rfl)
                refine pure_ (i := 9) (N := some 109) (v := ?_) (a' := ?_) (stickfullaw14_FillCovers.bm 45 1023) rfl rfl (any_of HT_.out (by kernel_rfl)) (fun _ _ _ h => h) (Or.inl ⟨by rfl, ?_⟩) ?_ ?_
                rotate_left; (focus intro w'; go_simp; with_reducible rfl); rotate_left; (focus simp only [Act.put, List.setIfInBounds_toArray, List.set_cons_zero, List.set_cons_succ, i64_w, i32_w]; rfl)
                refine pure_ (i := 10) (N := some 110) (v := ?_) (a' := ?_) (stickfullaw14_FillCovers.bm 45 2047) rfl rfl (any_of HT_.out (by kernel_rfl)) (fun _ _ _ h => h) (Or.inl ⟨by rfl, ?_⟩) ?_ ?_
                rotate_left; (focus intro w'; go_simp; with_reducible rfl); rotate_left; (focus simp only [Act.put, List.setIfInBounds_toArray, List.set_cons_zero, List.set_cons_succ, i64_w, i32_w]; rfl)
                refine pure_ (i := 11) (N := some 111) (v := undef) (a' := ?_) (stickfullaw14_FillCovers.bm 45 4095) rfl rfl (any_of HT_.out (by kernel_rfl)) (fun _ _ _ h => h) (Or.inr ⟨by rfl, rfl⟩) ?_ ?_
                rotate_left; (focus simp only [Act.put, List.setIfInBounds_toArray, List.set_cons_zero, List.set_cons_succ, i64_w, i32_w]; rfl)
                refine pure_ (i := 12) (N := some 112) (v := undef) (a' := ?_) (stickfullaw14_FillCovers.bm 45 8191) rfl rfl (any_of HT_.out (by kernel_rfl)) (fun _ _ _ h => h) (Or.inr ⟨by rfl, rfl⟩) ?_ ?_
                rotate_left; (focus simp only [Act.put, List.setIfInBounds_toArray, List.set_cons_zero, List.set_cons_succ, i64_w, i32_w]; rfl)
                refine pure_ (i := 13) (N := some 113) (v := undef) (a' := ?_) (stickfullaw14_FillCovers.bm 45 16383) rfl rfl (any_of HT_.out (by kernel_rfl)) (fun _ _ _ h => h) (Or.inr ⟨by rfl, rfl⟩) ?_ ?_
                rotate_left; (focus simp only [Act.put, List.setIfInBounds_toArray, List.set_cons_zero, List.set_cons_succ, i64_w, i32_w]; rfl)
                refine pure_ (i := 14) (N := some 114) (v := undef) (a' := ?_) (stickfullaw14_FillCovers.bm 45 32767) rfl rfl (any_of HT_.out (by kernel_rfl)) (fun _ _ _ h => h) (Or.inr ⟨by rfl, rfl⟩) ?_ ?_
                rotate_left; (focus simp only [Act.put, List.setIfInBounds_toArray, List.set_cons_zero, List.set_cons_succ, i64_w, i32_w]; rfl)
                refine pure_ (i := 15) (N := some 115) (v := undef) (a' := ?_) (stickfullaw14_FillCovers.bm 45 65535) rfl rfl (any_of HT_.out (by kernel_rfl)) (fun _ _ _ h => h) (Or.inr ⟨by rfl, rfl⟩) ?_ ?_
                rotate_left; (focus simp only [Act.put, List.setIfInBounds_toArray, List.set_cons_zero, List.set_cons_succ, i64_w, i32_w]; rfl)
                refine pure_ (i := 16) (N := some 116) (v := undef) (a' := ?_) (stickfullaw14_FillCovers.bm 45 131071) rfl rfl (any_of HT_.out (by kernel_rfl)) (fun _ _ _ h => h) (Or.inr ⟨by rfl, rfl⟩) ?_ ?_
                rotate_left; (focus simp only [Act.put, List.setIfInBounds_toArray, List.set_cons_zero, List.set_cons_succ, i64_w, i32_w]; rfl)
                refine pure_ (i := 17) (N := some 117) (v := undef) (a' := ?_) (stickfullaw14_FillCovers.bm 45 262143) rfl rfl (any_of HT_.out (by kernel_rfl)) (fun _ _ _ h => h) (Or.inr ⟨by rfl, rfl⟩) ?_ ?_
                rotate_left; (focus simp only [Act.put, List.setIfInBounds_toArray, List.set_cons_zero, List.set_cons_succ, i64_w, i32_w]; rfl)
                refine pure_ (i := 18) (N := some 118) (v := ?_) (a' := ?_) (stickfullaw14_FillCovers.bm 45 524287) rfl rfl (any_of HT_.out (by kernel_rfl)) (fun _ _ _ h => h) (Or.inl ⟨by rfl, ?_⟩) ?_ ?_
                rotate_left; (focus intro w'; go_simp; with_reducible rfl); rotate_left; (focus simp only [Act.put, List.setIfInBounds_toArray, List.set_cons_zero, List.set_cons_succ, i64_w, i32_w]; rfl)
                refine pure_ (i := 19) (N := some 119) (v := ?_) (a' := ?_) (stickfullaw14_FillCovers.bm 45 1048575) rfl rfl (any_of HT_.out (by kernel_rfl)) (fun _ _ _ h => h) (Or.inl ⟨by rfl, ?_⟩) ?_ ?_
                rotate_left; (focus intro w'; go_simp; with_reducible rfl); rotate_left; (focus simp only [Act.put, List.setIfInBounds_toArray, List.set_cons_zero, List.set_cons_succ, i64_w, i32_w]; rfl)
                refine pure_ (i := 20) (N := some 120) (v := ?_) (a' := ?_) (stickfullaw14_FillCovers.bm 45 2097151) rfl rfl (any_of HT_.out (by kernel_rfl)) (fun _ _ _ h => h) (Or.inl ⟨by rfl, ?_⟩) ?_ ?_
                rotate_left; (focus intro w'; go_simp; with_reducible rfl); rotate_left; (focus simp only [Act.put, List.setIfInBounds_toArray, List.set_cons_zero, List.set_cons_succ, i64_w, i32_w]; rfl)
                refine take_ (i := 21) (N := some 121) (v := ?_) (a' := ?_) (stickfullaw14_FillCovers.bm 45 4194303) rfl rfl (take_ofW HT_.out HW_.out (by kernel_rfl)) (fun _ _ _ h => h) (Or.inl ⟨by rfl, ?_⟩) hHeld ?_ ?_
                rotate_left; (focus rintro w' ⟨s0, s1, s2⟩; go_simp; with_reducible rfl); rotate_left; (focus simp only [Act.put, List.setIfInBounds_toArray, List.set_cons_zero, List.set_cons_succ, i64_w, i32_w]; rfl)
                refine pure_ (i := 22) (N := some 122) (v := ?_) (a' := ?_) (stickfullaw14_FillCovers.bm 45 8388607) rfl rfl (any_of HT_.out (by kernel_rfl)) (fun _ _ _ h => h) (Or.inl ⟨by rfl, ?_⟩) ?_ ?_
                rotate_left; (focus intro w'; go_simp; with_reducible rfl); rotate_left; (focus simp only [Act.put, List.setIfInBounds_toArray, List.set_cons_zero, List.set_cons_succ, i64_w, i32_w]; rfl)
                refine pure_ (i := 23) (N := some 123) (v := undef) (a' := ?_) (stickfullaw14_FillCovers.bm 45 16777215) rfl rfl (any_of HT_.out (by kernel_rfl)) (fun _ _ _ h => h) (Or.inr ⟨by rfl, rfl⟩) ?_ ?_
                rotate_left; (focus simp only [Act.put, List.setIfInBounds_toArray, List.set_cons_zero, List.set_cons_succ, i64_w, i32_w]; rfl)
                refine pure_ (i := 24) (N := some 124) (v := undef) (a' := ?_) (stickfullaw14_FillCovers.bm 45 33554431) rfl rfl (any_of HT_.out (by kernel_rfl)) (fun _ _ _ h => h) (Or.inr ⟨by rfl, rfl⟩) ?_ ?_
                rotate_left; (focus simp only [Act.put, List.setIfInBounds_toArray, List.set_cons_zero, List.set_cons_succ, i64_w, i32_w]; rfl)
                refine pure_ (i := 25) (N := some 125) (v := undef) (a' := ?_) (stickfullaw14_FillCovers.bm 45 67108863) rfl rfl (any_of HT_.out (by kernel_rfl)) (fun _ _ _ h => h) (Or.inr ⟨by rfl, rfl⟩) ?_ ?_
                rotate_left; (focus simp only [Act.put, List.setIfInBounds_toArray, List.set_cons_zero, List.set_cons_succ, i64_w, i32_w]; rfl)
                refine pure_ (i := 26) (N := some 126) (v := undef) (a' := ?_) (stickfullaw14_FillCovers.bm 45 134217727) rfl rfl (any_of HT_.out (by kernel_rfl)) (fun _ _ _ h => h) (Or.inr ⟨by rfl, rfl⟩) ?_ ?_
                rotate_left; (focus simp only [Act.put, List.setIfInBounds_toArray, List.set_cons_zero, List.set_cons_succ, i64_w, i32_w]; rfl)
                refine pure_ (i := 27) (N := some 127) (v := undef) (a' := ?_) (stickfullaw14_FillCovers.bm 45 268435455) rfl rfl (any_of HT_.out (by kernel_rfl)) (fun _ _ _ h => h) (Or.inr ⟨by rfl, rfl⟩) ?_ ?_
                rotate_left; (focus simp only [Act.put, List.setIfInBounds_toArray, List.set_cons_zero, List.set_cons_succ, i64_w, i32_w]; rfl)
                refine pure_ (i := 28) (N := some 128) (v := undef) (a' := ?_) (stickfullaw14_FillCovers.bm 45 536870911) rfl rfl (any_of HT_.out (by kernel_rfl)) (fun _ _ _ h => h) (Or.inr ⟨by rfl, rfl⟩) ?_ ?_
                rotate_left; (focus simp only [Act.put, List.setIfInBounds_toArray, List.set_cons_zero, List.set_cons_succ, i64_w, i32_w]; rfl)
                refine pure_ (i := 29) (N := some 129) (v := undef) (a' := ?_) (stickfullaw14_FillCovers.bm 45 1073741823) rfl rfl (any_of HT_.out (by kernel_rfl)) (fun _ _ _ h => h) (Or.inr ⟨by rfl, rfl⟩) ?_ ?_
                rotate_left; (focus simp only [Act.put, List.setIfInBounds_toArray, List.set_cons_zero, List.set_cons_succ, i64_w, i32_w]; rfl)
                refine pure_ (i := 30) (N := some 130) (v := undef) (a' := ?_) (stickfullaw14_FillCovers.bm 45 2147483647) rfl rfl (any_of HT_.out (by kernel_rfl)) (fun _ _ _ h => h) (Or.inr ⟨by rfl, rfl⟩) ?_ ?_
                rotate_left; (focus simp only [Act.put, List.setIfInBounds_toArray, List.set_cons_zero, List.set_cons_succ, i64_w, i32_w]; rfl)
                refine pure_ (i := 31) (N := some 131) (v := undef) (a' := ?_) (stickfullaw14_FillCovers.bm 45 4294967295) rfl rfl (any_of HT_.out (by kernel_rfl)) (fun _ _ _ h => h) (Or.inr ⟨by rfl, rfl⟩) ?_ ?_
                rotate_left; (focus simp only [Act.put, List.setIfInBounds_toArray, List.set_cons_zero, List.set_cons_succ, i64_w, i32_w]; rfl)
                refine pure_ (i := 32) (N := some 132) (v := ?_) (a' := ?_) (stickfullaw14_FillCovers.bm 45 8589934591) rfl rfl (any_of HT_.out (by kernel_rfl)) (fun _ _ _ h => h) (Or.inl ⟨by rfl, ?_⟩) ?_ ?_
                rotate_left; (focus intro w'; go_simp; with_reducible rfl); rotate_left; (focus simp only [Act.put, List.setIfInBounds_toArray, List.set_cons_zero, List.set_cons_succ, i64_w, i32_w]; rfl)
                refine pure_ (i := 33) (N := some 133) (v := ?_) (a' := ?_) (stickfullaw14_FillCovers.bm 45 17179869183) rfl rfl (any_of HT_.out (by kernel_rfl)) (fun _ _ _ h => h) (Or.inl ⟨by rfl, ?_⟩) ?_ ?_
                rotate_left; (focus intro w'; go_simp; with_reducible rfl); rotate_left; (focus simp only [Act.put, List.setIfInBounds_toArray, List.set_cons_zero, List.set_cons_succ, i64_w, i32_w]; rfl)
                refine pure_ (i := 34) (N := some 134) (v := ?_) (a' := ?_) (stickfullaw14_FillCovers.bm 45 34359738367) rfl rfl (any_of HT_.out (by kernel_rfl)) (fun _ _ _ h => h) (Or.inl ⟨by rfl, ?_⟩) ?_ ?_
                rotate_left; (focus intro w'; go_simp; with_reducible rfl); rotate_left; (focus simp only [Act.put, List.setIfInBounds_toArray, List.set_cons_zero, List.set_cons_succ, i64_w, i32_w]; rfl)
                refine pure_ (i := 35) (N := some 135) (v := ?_) (a' := ?_) (stickfullaw14_FillCovers.bm 45 68719476735) rfl rfl (any_of HT_.out (by kernel_rfl)) (fun _ _ _ h => h) (Or.inl ⟨by rfl, ?_⟩) ?_ ?_
                rotate_left; (focus intro w'; go_simp; with_reducible rfl); rotate_left; (focus simp only [Act.put, List.setIfInBounds_toArray, List.set_cons_zero, List.set_cons_succ, i64_w, i32_w]; rfl)
                refine pure_ (i := 36) (N := some 136) (v := ?_) (a' := ?_) (stickfullaw14_FillCovers.bm 45 137438953471) rfl rfl (any_of HT_.out (by kernel_rfl)) (fun _ _ _ h => h) (Or.inl ⟨by rfl, ?_⟩) ?_ ?_
                rotate_left; (focus intro w'; go_simp; with_reducible rfl); rotate_left; (focus simp only [Act.put, List.setIfInBounds_toArray, List.set_cons_zero, List.set_cons_succ, i64_w, i32_w]; rfl)
                refine pure_ (i := 37) (N := some 137) (v := ?_) (a' := ?_) (stickfullaw14_FillCovers.bm 45 274877906943) rfl rfl (any_of HT_.out (by kernel_rfl)) (fun _ _ _ h => h) (Or.inl ⟨by rfl, ?_⟩) ?_ ?_
                rotate_left; (focus intro w'; go_simp; with_reducible rfl); rotate_left; (focus simp only [Act.put, List.setIfInBounds_toArray, List.set_cons_zero, List.set_cons_succ, i64_w, i32_w]; rfl)
                refine pure_ (i := 38) (N := some 138) (v := ?_) (a' := ?_) (stickfullaw14_FillCovers.bm 45 549755813887) rfl rfl (any_of HT_.out (by kernel_rfl)) (fun _ _ _ h => h) (Or.inl ⟨by rfl, ?_⟩) ?_ ?_
                rotate_left; (focus intro w'; go_simp; with_reducible rfl); rotate_left; (focus simp only [Act.put, List.setIfInBounds_toArray, List.set_cons_zero, List.set_cons_succ, i64_w, i32_w]; rfl)
                refine pure_ (i := 39) (N := some 139) (v := ?_) (a' := ?_) (stickfullaw14_FillCovers.bm 45 1099511627775) rfl rfl (any_of HT_.out (by kernel_rfl)) (fun _ _ _ h => h) (Or.inl ⟨by rfl, ?_⟩) ?_ ?_
                rotate_left; (focus intro w'; go_simp; with_reducible rfl); rotate_left; (focus simp only [Act.put, List.setIfInBounds_toArray, List.set_cons_zero, List.set_cons_succ, i64_w, i32_w]; rfl)
                refine pure_ (i := 40) (N := some 140) (v := ?_) (a' := ?_) (stickfullaw14_FillCovers.bm 45 2199023255551) rfl rfl (any_of HT_.out (by kernel_rfl)) (fun _ _ _ h => h) (Or.inl ⟨by rfl, ?_⟩) ?_ ?_
                rotate_left; (focus intro w'; go_simp; with_reducible rfl); rotate_left; (focus simp only [Act.put, List.setIfInBounds_toArray, List.set_cons_zero, List.set_cons_succ, i64_w, i32_w]; rfl)
                refine pure_ (i := 41) (N := some 141) (v := undef) (a' := ?_) (stickfullaw14_FillCovers.bm 45 4398046511103) rfl rfl (any_of HT_.out (by kernel_rfl)) (fun _ _ _ h => h) (Or.inr ⟨by rfl, rfl⟩) ?_ ?_
                rotate_left; (focus simp only [Act.put, List.setIfInBounds_toArray, List.set_cons_zero, List.set_cons_succ, i64_w, i32_w]; rfl)
                refine pure_ (i := 42) (N := some 142) (v := undef) (a' := ?_) (stickfullaw14_FillCovers.bm 45 8796093022207) rfl rfl (any_of HT_.out (by kernel_rfl)) (fun _ _ _ h => h) (Or.inr ⟨by rfl, rfl⟩) ?_ ?_
                rotate_left; (focus simp only [Act.put, List.setIfInBounds_toArray, List.set_cons_zero, List.set_cons_succ, i64_w, i32_w]; rfl)
                refine pure_ (i := 43) (N := some 143) (v := ?_) (a' := ?_) (stickfullaw14_FillCovers.bm 45 17592186044415) rfl rfl (any_of HT_.out (by kernel_rfl)) (fun _ _ _ h => h) (Or.inl ⟨by rfl, ?_⟩) ?_ ?_
                rotate_left; (focus intro w'; go_simp; with_reducible rfl); rotate_left; (focus simp only [Act.put, List.setIfInBounds_toArray, List.set_cons_zero, List.set_cons_succ, i64_w, i32_w]; rfl)
                refine pure_ (i := 44) (N := some 144) (v := ?_) (a' := ?_) (stickfullaw14_FillCovers.bm 45 35184372088831) rfl rfl (any_of HT_.out (by kernel_rfl)) (fun _ _ _ h => h) (Or.inl ⟨by rfl, ?_⟩) ?_ ?_
                rotate_left; (focus intro w'; go_simp; with_reducible rfl); rotate_left; (focus simp only [Act.put, List.setIfInBounds_toArray, List.set_cons_zero, List.set_cons_succ, i64_w, i32_w]; rfl)
                refine done_ (done_of HT_.out (by kernel_rfl)) ?_
                have hnb112 := NB257_247.out
                have hnc112 := NB247_257.out
                have hnb113 := NB257_248.out
                have hnc113 := NB248_257.out
                obtain ⟨hcz114_0, hcz114_1, hcz114_2⟩ := cz3 BK257
                obtain ⟨hfz114_0, hfz114_1, hfz114_2⟩ := fz3 BK257
                try go_wp2
                go_roundg kj45
                case measure => have := HK1.out; have := HJ18.out; have := HJ45.out; omega
                case rel => exact ⟨(((rd_T35 t250 x10_1).f1)), (wrap64 (x10_1 + 1)), (by first | rfl | (simp; done) | (simp [*]; done)), (by first | rfl | (simp; done) | (simp [*]; done)), H', ⟨by have := HK1.out; have := HJ18.out; have := HJ45.out; omega⟩, ⟨by (with_reducible repeat (first | apply Kd.R_alloc | apply Kd.R_drewN | apply Kd.R_drew)); exact Kd.R_mono HO_7.out (fun _ hk => trivial)⟩, ⟨by (with_reducible repeat (first | refine blk_drewN ?_ _ | refine blk_drew ?_ | refine blk_alloc ?_ _)); exact BK247.out⟩, ⟨by (with_reducible repeat (first | refine blk_drewN ?_ _ | refine blk_drew ?_ | refine blk_alloc ?_ _)); exact BK248.out⟩, ⟨by repeat (first | (with_reducible first | exact HB.out | apply below_alloc | apply pw_below_drewN | apply below_drew1 | refine below_set ?_ GE247.out | refine below_set ?_ GE248.out | refine below_set ?_ GE257.out) | exact HB.out)⟩⟩
      ·rw [if_neg c18] at H
       exact absurd H (by simp)
     ·rw [if_neg c17] at H
      have c17b0 : decide (x10_1 < (t250.length : Int)) = false := decide_eq_false c17
      clear c17
      by_cases c115 : x9_1 = (l0.length : Int)
      ·rw [if_pos c115] at H
       have c115b0 : (x9_1 == (l0.length : Int)) = true := beq_iff_eq.mpr c115
       have c115b1 : (x9_1 != (l0.length : Int)) = false := bne_eq_false_iff_eq.mpr c115
       clear c115
       by_cases c116 : (t250.length : Int) > 0
       ·rw [if_pos c116] at H
        have c116b0 : decide (0 < (t250.length : Int)) = true := decide_eq_true c116
        have c116b1 : decide (0 < t250.length) = true := decide_eq_true (by omega)
        clear c116
        replace H := Option.bind_eq_some_iff.mp H
        obtain ⟨t255, A1170, H⟩ := H
        replace H : (some t255) = some r := H
        have A117 := Aside0.mk A1170
        clear A1170
        obtain rfl := Option.some.inj H
        obtain ⟨Ao118, co118, eo118⟩ := Kd.R_slice HO_7.out
        subst eo118
        go_wp2_with (first | (go_at_call 8; (with_reducible refine (stickfullaw14_head.calls k1  t255 _ A117.out).mono ?_); rintro e w119 ⟨rfl, hb⟩; replace HO_7 := Aside0.mk (Kd.R_below (rx HO_7) hb); replace BK247 := bb BK247 hb; replace BK248 := bb BK248 hb; replace HB := bh HB hb; (try clear hb); (try clear hb2); (try clear hk); (try clear hi)))
        go_ret
        exact ⟨by first | rfl | (simp [errW_none, errW_some] <;> rfl) | (simp [*, errW_none, errW_some] <;> rfl), by repeat (first | (with_reducible first | exact HB.out | apply below_alloc | apply pw_below_drewN | apply below_drew1 | refine below_set ?_ GE247.out | refine below_set ?_ GE248.out) | exact HB.out)⟩
       ·rw [if_neg c116] at H
        have c116b0 : decide (0 < (t250.length : Int)) = false := decide_eq_false c116
        have c116b1 : decide (0 < t250.length) = false := decide_eq_false (by omega)
        clear c116
        exact absurd ((Option.some.inj H).trans HR_.out) (by decide)
      ·rw [if_neg c115] at H
       have c115b0 : (x9_1 == (l0.length : Int)) = false := beq_eq_false_iff_ne.mpr c115
       have c115b1 : (x9_1 != (l0.length : Int)) = true := bne_iff_ne.mpr c115
       exact absurd ((Option.some.inj H).trans HR_.out) (by decide)
  ·rw [if_neg c10] at H
   have c10b0 : (t253 == 0) = false := beq_eq_false_iff_ne.mpr c10
   have c10b1 : (t253 != 0) = true := bne_iff_ne.mpr c10
   by_cases c120 : (t250.length : Int) = 0
   ·rw [if_pos c120] at H
    have c120b0 : ((t250.length : Int) == 0) = true := beq_iff_eq.mpr c120
    have c120b1 : ((t250.length : Int) != 0) = false := bne_eq_false_iff_eq.mpr c120
    clear c120
    replace H := Option.bind_eq_some_iff.mp H
    obtain ⟨t254, A1210, H⟩ := H
    replace H : (some t254) = some r := H
    have A121 := Aside0.mk A1210
    clear A1210
    obtain rfl := Option.some.inj H
    go_enter Try.func4, Try.ntmps4
    go_wp2_with (first | ((with_reducible refine gate_dst (N := 4) rfl ?_); (try (refine gate_guard (by rfl) ?_; dsimp only)); refine box_event ?hg (N := 4) ?hd (cs := #[.int .i64 a1_0, .int .i64 a1_1]) (t := 24) ?hr ?_; (case hd => rfl); (case hg => rfl); (case hr => first | (go_simp; done) | (go_simp; rfl)); intro gb247 hg w122 hbox hb; have BK247 := Aside0.mk (hbox); have GW247 := bge HB hg; have GE247 := bge HB hg; replace HB := bh HB hb; clear hb hbox hg) | ((with_reducible refine gate_dst (N := 5) rfl ?_); (try (refine gate_guard (by rfl) ?_; dsimp only)); refine box_event ?hg (N := 5) ?hd (cs := #[.int .i64 a2_0, .int .i64 a2_1]) (t := 24) ?hr ?_; (case hd => rfl); (case hg => rfl); (case hr => first | (go_simp; done) | (go_simp; rfl)); intro gb248 hg w123 hbox hb; have BK248 := Aside0.mk (hbox); have GW248 := bge HB hg; have GE248 := bge HB hg; replace HB := bh HB hb; have NB247_248 := nbl BK247 hg; have NB248_247 := nbg BK247 hg; replace BK247 := bb BK247 hb; clear hb hbox hg; have hnb124 := NB247_248.out; have hnc124 := NB248_247.out; obtain ⟨hcz125_0, hcz125_1⟩ := cz2 BK247; obtain ⟨hfz125_0, hfz125_1⟩ := fz2 BK247; obtain ⟨hcz126_0, hcz126_1⟩ := cz2 BK248; obtain ⟨hfz126_0, hfz126_1⟩ := fz2 BK248) | ((with_reducible refine gate_callee (f := 9) rfl ?_); refine goesB (some 23) rfl rfl Try.func9 #[.slice A0 l0.length c0, .agg #[.int .i64 a1_0, .int .i64 a1_1], .agg #[.int .i64 a2_0, .int .i64 a2_1]] rfl ?_; (with_reducible refine (fill_Lines.calls k _ _ l0 a1_0 a1_1 a2_0 a2_1 t250 t253 _ ?side1 ?side2 A9.out).mono ?_); (case side1 => repeat (first | exact (Kd.C_below HR0.out HB.out) | (with_reducible refine Kd.C_alloc ?_ _) | (with_reducible refine Kd.C_drewN ?_ _) | (with_reducible refine Kd.C_drew ?_))); (case side2 => exact HC0.out); rintro e w127 ⟨v251, rfl, ho0, hb⟩; refine ⟨_, rfl, ?_⟩; have HO252 := Aside0.mk (Kd.R_lower ho0 (below_size (bw HB))); replace BK247 := bb BK247 hb; replace BK248 := bb BK248 hb; replace HB := bh HB hb; (try clear hb); (try clear hb2); (try clear hk); (try clear hi); (try clear ho0); obtain ⟨Ao128, co128, eo128⟩ := Kd.R_slice HO252.out; subst eo128) | (go_at_call 8; (with_reducible refine (stickfullaw14_head.calls k  t254 _ A121.out).mono ?_); rintro e w129 ⟨rfl, hb⟩; replace HO252 := Aside0.mk (Kd.R_below (rx HO252) hb); replace BK247 := bb BK247 hb; replace BK248 := bb BK248 hb; replace HB := bh HB hb; (try clear hb); (try clear hb2); (try clear hk); (try clear hi)))
    go_ret
    exact ⟨by first | rfl | (simp [errW_none, errW_some] <;> rfl) | (simp [*, errW_none, errW_some] <;> rfl), by repeat (first | (with_reducible first | exact HB.out | apply below_alloc | apply pw_below_drewN | apply below_drew1 | refine below_set ?_ GE247.out | refine below_set ?_ GE248.out) | exact HB.out)⟩
   ·rw [if_neg c120] at H
    have c120b0 : ((t250.length : Int) == 0) = false := beq_eq_false_iff_ne.mpr c120
    have c120b1 : ((t250.length : Int) != 0) = true := bne_iff_ne.mpr c120
    have c120b2 : ¬ (t250 = []) := fun h_ => c120 (by rw [h_]; rfl)
    exact absurd ((Option.some.inj H).trans HR_.out) (by decide)

end Go.Proofs.Ytagdaniakfpnfaa.HFillC
