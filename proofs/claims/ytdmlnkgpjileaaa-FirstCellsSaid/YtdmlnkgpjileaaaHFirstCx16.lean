-- Written by this claim's own program over the kit's print.
import Derived.Test.YtdmlnkgpjileaaaM3
import Derived.Test.YtdmlnkgpjileaaaHFirstCx5
import Derived.Test.YtdmlnkgpjileaaaHFirstCx8
import Derived.Test.YtdmlnkgpjileaaaHFirstCx14
import Derived.Test.YtdmlnkgpjileaaaM2
import Derived.StillTailTactics
import Derived.Laws.Externs
import Derived.BigFrameIn
import Derived.Lib.Hide
import Derived.Sort.LoopGhostIn
import Derived.BigQuiet
namespace Go.Proofs.Ytdmlnkgpjileaaa.HFirstC
open Go.RowKit Go.Proofs.YtdmlnkgpjileaaaW.PrintWords Go.Proofs.YtdmlnkgpjileaaaW.PrintLast Go.Proofs.YtdmlnkgpjileaaaW.PrintMore
attribute [local go_sem] max2_int min2_int max_two min_two max_three min_three max_four min_four   -- for this text's walks alone
set_option linter.unusedVariables false
set_option linter.unusedSimpArgs false

-- BY HAND: function 18
section
open Go.Proofs.Ytdmlnkgpjileaaa.Hand
attribute [local go_sem] Oper.semAt_some
/-- Whether a line from a place on that ends at another one fits. -/
def fitO1 (l : List S46) (fr wd st : Int) (p : Int) : Option (Bool × Int) := if 0 ≤ fr ∧ fr ≤ p ∧ p ≤ (l.length : Int) then (trim_Fits.f (segL l fr p) st).bind fun b => some (decide (b.1 ≤ wd), b.2) else none
/-- The last of some ends that fit, and ahead of which all do; the first one, and false, if that does not fit. -/
def reachO (f : Int → Option (Bool × Int)) : List Int → Bool → Int → Option (Int × Bool × Int)
  | [], _, p => some (p, true, 0)
  | q :: qs, first, p => (f q).bind fun g => if g.2 = 0 then (if g.1 = true then reachO f qs false q else (if first = true then some (q, false, 0) else some (p, true, 0))) else some (0, false, g.2)
set_option maxRecDepth 100000 in
set_option maxHeartbeats 4000000 in
theorem fit1_any (Bl Bf Br : Nat) (A0 : Option Addr) (c0 : Nat) (l0 : List S46) (fr wd st p : Int) (g1 : Bool) (g2 : Int) (w : World) (hl : Boxed w Bl 22 (.slice A0 l0.length c0)) (hf : Boxed w Bf 3 (.int .i64 fr)) (hr : w.heap[Br]? = some (.cells #[.int .i64 wd, .int .i64 st] 24 (0, 0)))
    (h0 : Kd.C k46 w A0 l0.length l0) (hc0 : l0.length ≤ c0) (h : fitO1 l0 fr wd st p = some (g1, g2)) :
    Calls Try.prog 29 #[.int .i64 p, .pointer (some ⟨Bl, 0, none⟩), .pointer (some ⟨Bf, 0, none⟩), .pointer (some ⟨Br, 0, none⟩)] w fun e w' => e = .returned (.tuple #[.bool g1, .int .i64 g2]) ∧ Below w.heap.size w w' := by
  unfold fitO1 at h
  split at h
  case isFalse => cases h
  rename_i hcd
  obtain ⟨z0, z1, z2⟩ := hcd
  obtain ⟨⟨b1, b2⟩, hb, h⟩ := Option.bind_eq_some_iff.mp h
  simp only [Option.some.injEq, Prod.mk.injEq] at h
  obtain ⟨rfl, rfl⟩ := h
  have cl := hl.cell
  have cf := hf.cell
  have cr0 : w.cell? ⟨Br, 0, none⟩ = some (.int .i64 wd) := (blk_cell hr 0).trans rfl
  have cr1 : w.cell? ⟨Br, 1, none⟩ = some (.int .i64 st) := (blk_cell hr 1).trans rfl
  obtain ⟨i0, hi0, _, hsz, _⟩ := info_parts info46
  have hcut := cut_mid (P := Try.prog) 22 46 .i64 .i64 Try.underlying22 hi0 6 hsz A0 l0.length c0 fr p z0 z1 z2 hc0
  have hrw := Kd.C_mid (lo := fr.toNat) (hi := p.toNat) (c := c0) h0 (by omega) (by omega) hc0
  have hn : (segL l0 fr p).length = p.toNat - fr.toNat := by unfold segL; rw [List.length_drop, List.length_take]; omega
  obtain ⟨A1, hA1⟩ : ∃ Aq_, Aq_ = (if c0 = fr.toNat then A0 else (A0 : Option Addr).map (·.add (fr.toNat * 6))) := ⟨_, rfl⟩
  obtain ⟨c1, hc1⟩ : ∃ cq_, cq_ = c0 - fr.toNat := ⟨_, rfl⟩
  replace hrw : Kd.C k46 _ A1 (segL l0 fr p).length (segL l0 fr p) := (by rw [hA1]; exact hrw)
  rw [← hn, ← hA1, ← hc1] at hcut
  have hl1 : (segL l0 fr p).length ≤ c1 := by rw [hn, hc1]; omega
  generalize segL l0 fr p = y at hrw hl1 hcut hb
  have HB := Aside0.mk hb
  have HRW := Aside0.mk hrw
  have HL1 := Aside0.mk hl1
  have HR := Aside0.mk hr
  clear hb hrw hl1 hn hA1 hc1 hi0 hsz hl hf h0 hc0 hr
  go_enter Try.func29, Try.ntmps29
  go_wp2_with fail
  refine (wpIn_wide (n := 8)).1 ?_
  refine phase_region (by kernel_rfl) ?_
  refine phase_in 0 6 (by kernel_rfl) ?_
  simp only [Nat.reduceSub, Nat.sub_zero, List.drop_succ_cons, List.drop_zero, List.take_succ_cons, List.take_zero]
  repeat still_step
  refine wpStill_nil ?_
  refine phase_op rfl (by rfl) ?_
  refine ⟨fun _ _ => trivial, ?_⟩
  go_simp
  refine callsIn_wide.2 ((trim_Fits.calls A1 c1 y st b1 b2 w.drew (Kd.C_drew HRW.out) HL1.out HB.out).mono ?_)
  rintro e_ w6 ⟨rfl, hb6⟩
  dsimp only
  have hB6 : Below w.heap.size w w6 := below_step (below_drew1 (Below.refl _ _)) hb6
  refine phase_in 7 11 (by kernel_rfl) ?_
  simp only [Nat.reduceSub, List.drop_succ_cons, List.drop_zero, List.take_succ_cons, List.take_zero]
  repeat still_step
  refine wpStill_nil ?_
  refine phase_op rfl (by rfl) ?_
  refine ⟨fun _ _ => trivial, ?_⟩
  go_simp
  refine phase_done 12 (by kernel_rfl) ?_
  simp only [Exit.then]
  have hr6 := (hB6.block _ (Array.getElem?_eq_some_iff.1 HR.out).1).trans HR.out
  have cr6 : w6.cell? ⟨Br, 0, none⟩ = some (.int .i64 wd) := (blk_cell hr6 0).trans rfl
  clear cl cf cr0 cr1 hcut hr6
  go_wp2_with fail
  go_ret2
  exact ⟨rfl, hB6⟩
set_option maxRecDepth 100000 in
set_option maxHeartbeats 4000000 in
theorem reach_any (gi : Nat) (cap : Array Value) (f : Int → Option (Bool × Int)) (A0 : Option Addr) (c0 : Nat) (l0 : List Int) (r1 : Int) (r2 : Bool) (r3 : Int) (w : World) (heg : ∀ args w, (callFunc gi args).run Try.prog w = .ok (.enter gi args) w)
    (hf : ∀ (q : Int) (g1 : Bool) (g2 : Int) (W : World), q ∈ l0 → f q = some (g1, g2) → Below w.heap.size w W → Calls Try.prog gi (#[.int .i64 q] ++ cap) W fun e W' => e = .returned (.tuple #[.bool g1, .int .i64 g2]) ∧ Below W.heap.size W W')
    (h0 : Kd.C (Kd.int .i64) w A0 l0.length l0) (h : reachO f l0 true 0 = some (r1, r2, r3)) :
    Calls Try.prog 31 #[.slice A0 l0.length c0, .func (.func gi) #[] cap] w fun e w' => e = .returned (.tuple #[.int .i64 r1, .bool r2, .int .i64 r3]) ∧ Below w.heap.size w w' := by
  have HF := Aside0.mk hf
  have H := Aside0.mk h
  have hmx : l0.length ≤ 9223372036854775807 := h0.2.1
  clear hf h
  go_enter Try.func31, Try.ntmps31
  go_wp2_with fail
  go_loopg [4, 13] (l0.length + 1) (fun kq v4 v13 wr => ∃ (i : Nat) (x p : Int), v13 = .int .i64 x ∧ v4 = .int .i64 p ∧ Aside0 (x = (i : Int)) ∧ Aside0 (reachO f (l0.drop i) (decide (i = 0)) p = some (r1, r2, r3)) ∧ Aside0 (i ≤ l0.length ∧ l0.length < i + kq) ∧ Aside0 (Below w.heap.size w wr))
  case atStart => exact ⟨0, 0, 0, rfl, rfl, ⟨rfl⟩, H, ⟨by omega⟩, ⟨Below.refl _ _⟩⟩
  case round =>
    clear H
    obtain ⟨i, x, p, rfl, rfl, hxi, hr, hin, hB⟩ := hrel
    cases gk with
    | zero => have := hin.out; exfalso; omega
    | succ m =>
    have hr2 := hr.out
    clear hr
    by_cases hi : i < l0.length
    · have d1 : decide (x < (l0.length : Int)) = true := decide_eq_true (by have := hxi.out; omega)
      rw [List.drop_eq_getElem_cons hi] at hr2
      simp only [reachO] at hr2
      obtain ⟨⟨g1, g2⟩, hg, hr2⟩ := Option.bind_eq_some_iff.mp hr2
      have z1 : 0 ≤ x := by have := hxi.out; omega
      have z2 : x < (l0.length : Int) := by have := hxi.out; omega
      obtain ⟨ad, rfl, hx0⟩ := Kd.at_int (Kd.C_below h0 hB.out) x z1 z2
      have erd : rd l0 x = l0[i] := by rw [hxi.out]; unfold rd; simp [List.getD, hi]
      rw [erd] at hx0
      have HC := Aside0.mk (HF.out l0[i] g1 g2 wr (List.getElem_mem hi) hg hB.out)
      have e1 : IntKind.i64.wrap (x + 1) = x + 1 := IntWalk.i64_in _ (by have := hxi.out; omega)
      have HI := Aside0.mk hi
      have HG := Aside0.mk hr2
      generalize l0[i] = q at hx0 HC HG
      clear hr2 hg erd
      go_wp2_with fail
      refine HC.out.mono ?_
      rintro e_ w5 ⟨rfl, hb5⟩
      have hB5 := Aside0.mk (below_step hB.out hb5)
      have hr2 := HG.out
      clear hb5 HC
      by_cases hg2 : g2 = 0
      · subst hg2
        replace hr2 := (if_pos rfl).symm.trans hr2
        cases g1 with
        | true =>
          replace hr2 := (if_pos rfl).symm.trans hr2
          have HR := Aside0.mk hr2
          clear hr2 HG
          go_wp2_with fail
          go_roundg m
          case measure => omega
          case rel => exact ⟨i + 1, x + 1, q, rfl, rfl, ⟨by have := hxi.out; omega⟩, ⟨by rw [decide_eq_false (by omega)]; exact HR.out⟩, ⟨by have := hin.out; have := HI.out; omega⟩, hB5⟩
        | false =>
          replace hr2 := (if_neg (by decide)).symm.trans hr2
          by_cases hi0 : i = 0
          · have d2 : (x == 0) = true := beq_iff_eq.2 (by have := hxi.out; omega)
            subst hi0
            replace hr2 := (if_pos (by decide)).symm.trans hr2
            simp only [Option.some.injEq, Prod.mk.injEq] at hr2
            obtain ⟨rfl, rfl, rfl⟩ := hr2
            clear HG
            go_wp2_with fail
            go_ret3
            exact ⟨rfl, hB5.out⟩
          · have d2 : (x == 0) = false := beq_eq_false_iff_ne.2 (by have := hxi.out; omega)
            replace hr2 := (if_neg (by simpa using hi0)).symm.trans hr2
            simp only [Option.some.injEq, Prod.mk.injEq] at hr2
            obtain ⟨rfl, rfl, rfl⟩ := hr2
            clear HG
            go_wp2_with fail
            go_ret3
            exact ⟨rfl, hB5.out⟩
      · have d1 : (g2 != 0) = true := bne_iff_ne.2 hg2
        replace hr2 := (if_neg hg2).symm.trans hr2
        simp only [Option.some.injEq, Prod.mk.injEq] at hr2
        obtain ⟨rfl, rfl, rfl⟩ := hr2
        clear HG
        go_wp2_with fail
        go_ret3
        exact ⟨rfl, hB5.out⟩
    · have d1 : decide (x < (l0.length : Int)) = false := decide_eq_false (by have := hxi.out; omega)
      rw [List.drop_of_length_le (by omega)] at hr2
      simp only [reachO, Option.some.injEq, Prod.mk.injEq] at hr2
      obtain ⟨rfl, rfl, rfl⟩ := hr2
      clear hi
      go_wp2_with fail
      go_ret3
      exact ⟨rfl, hB.out⟩
end
section
open Go.Proofs.Ytdmlnkgpjileaaa.Hand
attribute [local go_sem] Oper.semAt_some
theorem results_st_ {P : Program} {fn : Func} {p q : Tmp} {ty : TypeId} {fs : Array Field} (h : fn.results = #[.cell p ty, .tmp q]) (hu : P.underlying ty = some (.struct fs)) (hz : (P.info? ty).map (·.size) = some 3)
    (tmps : Array Value) (w : World) (g : Nat) (v0 v1 v2 u : Value) (hp : tmps.getD p undef = .pointer (some ⟨g, 0, none⟩)) (hq : tmps.getD q undef = u) (hc : w.heap[g]? = some (.cells #[v0, v1, v2] ty (0, 0))) :
    (results fn tmps).run P w = .ok (.tuple #[.agg #[v0, v1, v2], u]) w := by
  have h1 : tmps[p]?.getD undef = .pointer (some ⟨g, 0, none⟩) := by simpa using hp
  have h2 : tmps[q]?.getD undef = u := by simpa using hq
  have e1 := run_underlying hu
  have c0 : w.cell? ⟨g, 0, none⟩ = some v0 := (blk_cell hc 0).trans rfl
  have c1 : w.cell? ⟨g, 1, none⟩ = some v1 := (blk_cell hc 1).trans rfl
  have c2 : w.cell? ⟨g, 2, none⟩ = some v2 := (blk_cell hc 2).trans rfl
  obtain ⟨i, hi, hs⟩ := Option.map_eq_some_iff.1 hz
  have e2 : (sizeOf ty).run P w = .ok 3 w := by rw [run_sizeOf w hi]; simp [Program.cellsOf, hi, hs]
  simp [results, h, h1, h2, asAddr, loadVar, isAgg, e1, e2, go_sem, c0, c1, c2]
theorem blk3_ {W : World} {g : Nat} {t : TypeId} {a b c : Value} (h : W.heap[g]? = some (.cells #[a, b, c] t (0, 0))) (x y z : Value) : (((W.setCell ⟨g, 0, none⟩ x).setCell ⟨g, 1, none⟩ y).setCell ⟨g, 2, none⟩ z).heap[g]? = some (.cells #[x, y, z] t (0, 0)) :=
  blk_put (blk_put (blk_put h 0 x rfl) 1 y rfl) 2 z rfl
theorem bel3_ {n : Nat} {w0 W : World} {g : Nat} (h : Below n w0 W) (hg : n ≤ g) (x y z : Value) : Below n w0 (((W.setCell ⟨g, 0, none⟩ x).setCell ⟨g, 1, none⟩ y).setCell ⟨g, 2, none⟩ z) :=
  ((h.setCell (p := ⟨g, 0, none⟩) hg x).setCell (p := ⟨g, 1, none⟩) hg y).setCell (p := ⟨g, 2, none⟩) hg z
/-- What the call's own boxes hold. -/
structure OneAt (w : World) (A0 : Option Addr) (c0 nl : Nat) (a1 wd st : Int) (W : World) : Prop where
  xl : Boxed W w.heap.size 22 (.slice A0 nl c0)
  xf : Boxed W (w.heap.size + 1) 3 (.int .i64 a1)
  xr : W.heap[w.heap.size + 2]? = some (.cells #[.int .i64 wd, .int .i64 st] 24 (0, 0))
  xo : W.heap[w.heap.size + 3]? = some (.cells #[.int .i64 0, .int .i64 0, .bool false] 43 (0, 0))
  bel : Below w.heap.size w W
theorem OneAt.below {w : World} {A0 : Option Addr} {c0 nl : Nat} {a1 wd st : Int} {W W' : World} (h : OneAt w A0 c0 nl a1 wd st W) (hb : Below W.heap.size W W') : OneAt w A0 c0 nl a1 wd st W' :=
  ⟨boxed_below h.xl hb, boxed_below h.xf hb, (hb.block _ (Array.getElem?_eq_some_iff.1 h.xr).1).trans h.xr, (hb.block _ (Array.getElem?_eq_some_iff.1 h.xo).1).trans h.xo, below_step h.bel hb⟩
theorem OneAt.fit {w : World} {A0 : Option Addr} {c0 : Nat} {l0 : List S46} {a1 wd st : Int} {W : World} (h : OneAt w A0 c0 l0.length a1 wd st W) (h0 : Kd.C k46 w A0 l0.length l0) (hc0 : l0.length ≤ c0) (xs : List Int) :
    ∀ (q : Int) (g1 : Bool) (g2 : Int) (W' : World), q ∈ xs → fitO1 l0 a1 wd st q = some (g1, g2) → Below W.heap.size W W' → Calls Try.prog 29 (#[.int .i64 q] ++ #[.pointer (some ⟨w.heap.size, 0, none⟩), .pointer (some ⟨w.heap.size + 1, 0, none⟩), .pointer (some ⟨w.heap.size + 2, 0, none⟩)]) W' fun e W2 => e = .returned (.tuple #[.bool g1, .int .i64 g2]) ∧ Below W'.heap.size W' W2 := fun q g1 g2 W' _ hf hb => by
  have h2 := h.below hb
  have := fit1_any w.heap.size (w.heap.size + 1) (w.heap.size + 2) A0 c0 l0 a1 wd st q g1 g2 W' h2.xl h2.xf h2.xr (Kd.C_below h0 h2.bel) hc0 hf
  simpa using this
def nearL (l : List Int) (p : Int) : List Int := l.filter fun q => decide (q < p)
def fill_One.f (k : Nat) (l0 : List S46) (a1 a2_0 a2_1 : Int) : Option (Int × Int × Bool × Int) :=
  (fill_Ends.f k l0 a1).bind fun E => if E.2.2 = 0 then (if a2_0 < 0 then some (0, 0, false, 2) else if E.2.1.length ≤ 1000000000000 then (reachO (fitO1 l0 a1 a2_0 a2_1) E.1 true 0).bind fun R =>
    (if R.2.2 = 0 ∧ R.2.1 = false ∧ 0 < (nearL E.2.1 R.1).length then (reachO (fitO1 l0 a1 a2_0 a2_1) (nearL E.2.1 R.1) true 0).bind fun T => some (T.1, T.2.2) else some (R.1, R.2.2)).bind fun Z =>
      if Z.2 = 0 then (fill_last.f k l0 a1).bind fun L => some (a1, Z.1, (L.2 && (Z.1 == L.1)), 0) else some (0, 0, false, Z.2) else none) else some (0, 0, false, 2)
theorem fill_One.mono : ∀ a0 a1 a2 a3 k, LeO (fill_One.f k a0 a1 a2 a3) (fill_One.f (k + 1) a0 a1 a2 a3) := by
  intro a0 a1 a2 a3 k
  unfold fill_One.f
  refine LeO.bind (fill_Ends.mono _ _ _) fun E => LeO.ite (LeO.ite (LeO.refl _) (LeO.ite (LeO.bind (LeO.refl _) fun R => LeO.bind (LeO.refl _) fun Z => LeO.ite (LeO.bind (fill_last.mono _ _ _) fun L => LeO.refl _) (LeO.refl _)) (LeO.refl _))) (LeO.refl _)
theorem nearL_snoc (l : List Int) (p : Int) (i : Nat) (hi : i < l.length) : nearL (l.take (i + 1)) p = if l[i] < p then nearL (l.take i) p ++ [l[i]] else nearL (l.take i) p := by
  unfold nearL
  rw [List.take_add_one, List.getElem?_eq_getElem hi, List.filter_append]
  by_cases h : l[i] < p
  · rw [if_pos h]; simp [h]
  · rw [if_neg h]; simp [h]
set_option maxRecDepth 100000 in
set_option maxHeartbeats 8000000 in
theorem fill_One.calls (k : Nat) (A0 : Option Addr) (c0 : Nat) (l0 : List S46) (a1 a2_0 a2_1 r1 r2 : Int) (r3 : Bool) (r4 : Int) (w : World) (hr0 : Kd.C k46 w A0 l0.length l0) (hc0 : l0.length ≤ c0) (h : fill_One.f k l0 a1 a2_0 a2_1 = some (r1, r2, r3, r4)) :
    Calls Try.prog 18 #[.slice A0 l0.length c0, .int .i64 a1, .agg #[.int .i64 a2_0, .int .i64 a2_1]] w fun e w' => e = .returned (.tuple #[.agg #[.int .i64 r1, .int .i64 r2, .bool r3], .int .i64 r4]) ∧ Below w.heap.size w w' := by
  unfold fill_One.f at h
  obtain ⟨⟨E1, E2, e⟩, hE, h⟩ := Option.bind_eq_some_iff.mp h
  have HE := Aside0.mk hE
  have H := Aside0.mk h
  have x1 := (((Boxed.new w 22 (.slice A0 l0.length c0)).alloc (.cells #[.int .i64 a1] 3)).alloc (.cells #[.int .i64 a2_0, .int .i64 a2_1] 24)).alloc (.cells #[.int .i64 0, .int .i64 0, .bool false] 43)
  have x2 := ((boxed_new (w.alloc (.cells #[.slice A0 l0.length c0] 22)) (w.heap.size + 1) 3 (.int .i64 a1) (by simp)).alloc (.cells #[.int .i64 a2_0, .int .i64 a2_1] 24)).alloc (.cells #[.int .i64 0, .int .i64 0, .bool false] 43)
  have x3 : ((((w.alloc (.cells #[.slice A0 l0.length c0] 22)).alloc (.cells #[.int .i64 a1] 3)).alloc (.cells #[.int .i64 a2_0, .int .i64 a2_1] 24)).alloc (.cells #[.int .i64 0, .int .i64 0, .bool false] 43)).heap[w.heap.size + 2]? = some (.cells #[.int .i64 a2_0, .int .i64 a2_1] 24 (0, 0)) := by
    have := World.alloc_heap_new ((w.alloc (.cells #[.slice A0 l0.length c0] 22)).alloc (.cells #[.int .i64 a1] 3)) (.cells #[.int .i64 a2_0, .int .i64 a2_1] 24)
    rw [World.size_alloc, World.size_alloc] at this
    exact (Below.heap_alloc _ _ _ (by simp)).trans this
  have x4 : ((((w.alloc (.cells #[.slice A0 l0.length c0] 22)).alloc (.cells #[.int .i64 a1] 3)).alloc (.cells #[.int .i64 a2_0, .int .i64 a2_1] 24)).alloc (.cells #[.int .i64 0, .int .i64 0, .bool false] 43)).heap[w.heap.size + 3]? = some (.cells #[.int .i64 0, .int .i64 0, .bool false] 43 (0, 0)) := by
    have := World.alloc_heap_new (((w.alloc (.cells #[.slice A0 l0.length c0] 22)).alloc (.cells #[.int .i64 a1] 3)).alloc (.cells #[.int .i64 a2_0, .int .i64 a2_1] 24)) (.cells #[.int .i64 0, .int .i64 0, .bool false] 43)
    rw [World.size_alloc, World.size_alloc, World.size_alloc] at this
    exact this
  have hA : OneAt w A0 c0 l0.length a1 a2_0 a2_1 ((((w.alloc (.cells #[.slice A0 l0.length c0] 22)).alloc (.cells #[.int .i64 a1] 3)).alloc (.cells #[.int .i64 a2_0, .int .i64 a2_1] 24)).alloc (.cells #[.int .i64 0, .int .i64 0, .bool false] 43)) :=
    ⟨x1, x2, x3, x4, below_alloc (below_alloc (below_alloc (below_alloc (Below.refl _ _) _) _) _) _⟩
  clear hE h x3 x4
  have q1 := x1.cell
  have q2 := x2.cell
  have HA := Aside0.mk hA
  clear x1 x2 hA
  go_enter Try.func18, Try.ntmps18
  go_wp2_with (first | (go_at_call 21; refine Aside0.out ?_))
  refine Aside0.mk ?_
  generalize ((((w.alloc (.cells #[.slice A0 l0.length c0] 22)).alloc (.cells #[.int .i64 a1] 3)).alloc (.cells #[.int .i64 a2_0, .int .i64 a2_1] 24)).alloc (.cells #[.int .i64 0, .int .i64 0, .bool false] 43)) = W0 at HA q1 q2 ⊢
  refine (fill_Ends.calls k A0 c0 l0 a1 E1 E2 e W0 (Kd.C_below hr0 HA.out.bel) hc0 HE.out).mono ?_
  rintro e_ W1 ⟨v0, v1, rfl, ho0, ho1, hb1⟩
  obtain ⟨Aa, ca, rfl⟩ := Kd.R_slice ho0
  obtain ⟨Ab, cb, rfl⟩ := Kd.R_slice ho1
  have HA1 := Aside0.mk (HA.out.below hb1)
  have HR0 := Aside0.mk (Kd.R_reads' ho0).2.2
  have HR1 := Aside0.mk (Kd.R_reads' ho1).2.2
  have H := H.out
  have cr0 : W1.cell? ⟨w.heap.size + 2, 0, none⟩ = some (.int .i64 a2_0) := (blk_cell HA1.out.xr 0).trans rfl
  clear ho0 ho1 hb1 q1 q2 HA HE
  have fin : ∀ (W : World), OneAt w A0 c0 l0.length a1 a2_0 a2_1 W → (W.cell? ⟨w.heap.size + 3, 0, none⟩ = some (.int .i64 0) ∧ W.cell? ⟨w.heap.size + 3, 1, none⟩ = some (.int .i64 0) ∧ W.cell? ⟨w.heap.size + 3, 2, none⟩ = some (.bool false)) ∧ (W.frozen? ⟨w.heap.size + 3, 0, none⟩ = false ∧ W.frozen? ⟨w.heap.size + 3, 1, none⟩ = false ∧ W.frozen? ⟨w.heap.size + 3, 2, none⟩ = false) := fun W hW =>
    ⟨⟨(blk_cell hW.xo 0).trans rfl, (blk_cell hW.xo 1).trans rfl, (blk_cell hW.xo 2).trans rfl⟩, blk_frozen hW.xo 0, blk_frozen hW.xo 1, blk_frozen hW.xo 2⟩
  have FIN := Aside0.mk fin
  clear fin
  by_cases he : e = 0
  · have d1 : (e != 0) = false := bne_eq_false_iff_eq.2 he
    have d1b : (e == 0) = true := beq_iff_eq.2 he
    replace H := (if_pos he).symm.trans H
    clear he
    by_cases hw : a2_0 < 0
    · have d2 : decide (a2_0 < 0) = true := decide_eq_true hw
      replace H := (if_pos hw).symm.trans H
      simp only [Option.some.injEq, Prod.mk.injEq] at H
      obtain ⟨rfl, rfl, rfl, rfl⟩ := H
      obtain ⟨⟨f1, f2, f3⟩, f4, f5, f6⟩ := FIN.out W1 HA1.out
      go_wp2_with fail
      refine bodyPost_ret (results_st_ rfl Try.underlying43 (by kernel_rfl) _ _ (w.heap.size + 3) _ _ _ _ rfl rfl (blk3_ HA1.out.xo _ _ _)) rfl ⟨rfl, bel3_ HA1.out.bel (by omega) _ _ _⟩
    · have d2 : decide (a2_0 < 0) = false := decide_eq_false hw
      replace H := (if_neg hw).symm.trans H
      split at H
      case isFalse => cases H
      rename_i hE2
      obtain ⟨⟨R1, R2, R3⟩, hR, H⟩ := Option.bind_eq_some_iff.mp H
      have HRe := Aside0.mk hR
      have HE2 := Aside0.mk hE2
      have HH := Aside0.mk H
      clear H hR hE2 hw
      go_wp2_with (first | (go_at_call 31; refine Aside0.out ?_))
      refine Aside0.mk ?_
      refine (reach_any 29 _ (fitO1 l0 a1 a2_0 a2_1) Aa ca E1 R1 R2 R3 W1 (enters_of Try.func29 (by kernel_rfl) rfl) (HA1.out.fit hr0 hc0 E1) HR0.out HRe.out).mono ?_
      rintro e_ W2 ⟨rfl, hb2⟩
      have HA2 := Aside0.mk (HA1.out.below hb2)
      have HR2 := Aside0.mk (Kd.C_below HR1.out hb2)
      have hmx : E2.length ≤ 9223372036854775807 := HR1.out.2.1
      clear hb2 cr0 HRe HR0 HR1 HA1 d2
      go_wp2_with fail
      go_loopg [14, 44] (E2.length + 1) (fun kq v14 v44 wr => ∃ (i : Nat) (x : Int), v44 = .int .i64 x ∧ Aside0 (x = (i : Int)) ∧ Aside0 (i ≤ E2.length ∧ E2.length < i + kq) ∧ Aside0 (Kd.R (Kd.int .i64) 3 wr W2.heap.size (fun _ => True) v14 (nearL (E2.take i) R1)) ∧ Aside0 (Below W2.heap.size W2 wr))
      case atStart => exact ⟨0, 0, rfl, ⟨rfl⟩, ⟨by omega⟩, ⟨Kd.R_nil _ _ _ _ _⟩, ⟨Below.refl _ _⟩⟩
      case round =>
        obtain ⟨i, x, rfl, hxi, hin, hrow, hB⟩ := hrel
        cases gk with
        | zero => have := hin.out; exfalso; omega
        | succ m =>
        by_cases hi : i < E2.length
        · have d2 : decide (x < (E2.length : Int)) = true := decide_eq_true (by have := hxi.out; omega)
          have z1 : 0 ≤ x := by have := hxi.out; omega
          have z2 : x < (E2.length : Int) := by have := hxi.out; omega
          obtain ⟨ad, rfl, hx0⟩ := Kd.at_int (Kd.C_below HR2.out hB.out) x z1 z2
          have erd : rd E2 x = E2[i] := by rw [hxi.out]; unfold rd; simp [List.getD, hi]
          rw [erd] at hx0
          have hns := nearL_snoc E2 R1 i hi
          have e1 : IntKind.i64.wrap (x + 1) = x + 1 := IntWalk.i64_in _ (by have := hxi.out; omega)
          have HI := Aside0.mk hi
          clear erd
          generalize E2[i] = q at hx0 hns
          clear hi
          by_cases hq : q < R1
          · have d3 : decide (q < R1) = true := decide_eq_true hq
            rw [if_pos hq] at hns
            have HNS := Aside0.mk hns
            have hnl : (nearL (E2.take i) R1).length ≤ i := by unfold nearL; exact Nat.le_trans (List.length_filter_le _ _) (by rw [List.length_take]; omega)
            have HNL := Aside0.mk hnl
            clear hns hq hnl
            go_wp2_with (first | (at_builtin; refine Aside0.out ?_))
            refine Aside0.mk ?_
            refine Kd.R_append (Kd.int .i64) (w0 := W2) W2.heap.size rfl (.tmp 51) (.tmp 53) 52 3 (.int .i64 0) 8 rfl Try.underlying52 info3 rfl (by decide) (by omega) _ (nearL (E2.take i) R1) q [.int .i64 q] (fun _ => True) (fun _ => False) rfl rfl rfl (fun _ hk => hk.elim) (fun k hk => trivial) hrow.out hB.out hB.out.size (by have := HNL.out; have := HI.out; have := HE2.out; simp at this ⊢; omega) ?_
            intro v3 W3 ho3 hb3 hg3 _
            rw [← HNS.out] at ho3
            have HO3 := Aside0.mk ho3
            have HB3 := Aside0.mk hb3
            clear ho3 hb3 hg3
            go_wp2_with fail
            go_roundg m
            case measure => omega
            case rel => exact ⟨i + 1, x + 1, rfl, ⟨by have := hxi.out; omega⟩, ⟨by have := hin.out; have := HI.out; omega⟩, HO3, HB3⟩
          · have d3 : decide (q < R1) = false := decide_eq_false hq
            rw [if_neg hq] at hns
            have HNS := Aside0.mk hns
            clear hns hq
            go_wp2_with fail
            go_roundg m
            case measure => omega
            case rel => exact ⟨i + 1, x + 1, rfl, ⟨by have := hxi.out; omega⟩, ⟨by have := hin.out; have := HI.out; omega⟩, ⟨by rw [HNS.out]; exact hrow.out⟩, hB⟩
        · have d2 : decide (x < (E2.length : Int)) = false := decide_eq_false (by have := hxi.out; omega)
          have hrow2 := hrow.out
          rw [List.take_of_length_le (by omega)] at hrow2
          obtain ⟨An, cn, rfl⟩ := Kd.R_slice hrow2
          have HN := Aside0.mk (Kd.R_reads' hrow2).2.2
          have HA3 := Aside0.mk (HA2.out.below hB.out)
          clear hrow hrow2 hi
          have HH2 := HH.out
          clear HH HA2
          by_cases hr3 : R3 = 0
          · have g1 : (R3 == 0) = true := beq_iff_eq.2 hr3
            have g1b : (R3 != 0) = false := bne_eq_false_iff_eq.2 hr3
            cases R2 with
            | true =>
              rw [if_neg (fun hc => absurd hc.2.1 (by decide)), Option.bind_some, if_pos hr3] at HH2
              clear hr3
              obtain ⟨⟨L1, L2⟩, hL, hz⟩ := Option.bind_eq_some_iff.mp HH2
              simp only [Option.some.injEq, Prod.mk.injEq] at hz
              obtain ⟨rfl, rfl, rfl, rfl⟩ := hz
              have HL := Aside0.mk hL
              clear hL HH2
              have cl := HA3.out.xl.cell
              have cf := HA3.out.xf.cell
              go_wp2_with (first | (go_at_call 32; refine Aside0.out ?_))
              refine Aside0.mk ?_
              refine (fill_last.calls k A0 c0 l0 a1 L1 L2 _ (Kd.C_below hr0 HA3.out.bel) hc0 HL.out).mono ?_
              rintro e_ W5 ⟨rfl, ⟨m5, rfl⟩⟩
              have HA5 := Aside0.mk (HA3.out.below (pw_below_drewN (Below.refl _ _) m5))
              obtain ⟨⟨f1, f2, f3⟩, f4, f5, f6⟩ := FIN.out _ HA5.out
              have cf5 := HA5.out.xf.cell
              clear cl cf HL
              cases L2 with
              | true =>
                go_wp2_with fail
                refine bodyPost_ret (results_st_ rfl Try.underlying43 (by kernel_rfl) _ _ (w.heap.size + 3) _ _ _ _ rfl rfl (blk3_ HA5.out.xo _ _ _)) rfl ⟨rfl, bel3_ HA5.out.bel (by omega) _ _ _⟩
              | false =>
                go_wp2_with fail
                refine bodyPost_ret (results_st_ rfl Try.underlying43 (by kernel_rfl) _ _ (w.heap.size + 3) _ _ _ _ rfl rfl (blk3_ HA5.out.xo _ _ _)) rfl ⟨rfl, bel3_ HA5.out.bel (by omega) _ _ _⟩
            | false =>
              by_cases hnl : 0 < (nearL E2 R1).length
              · rw [if_pos ⟨hr3, rfl, hnl⟩] at HH2
                obtain ⟨nl, hnle⟩ : ∃ nl, (nearL E2 R1).length = nl := ⟨_, rfl⟩
                have g2 : decide (0 < (nl : Int)) = true := decide_eq_true (by omega)
                have g2n : decide (0 < nl) = true := decide_eq_true (by omega)
                have HNL := Aside0.mk hnle
                rw [hnle]
                clear hnle
                obtain ⟨⟨Z1, Z2⟩, hZ, HH2⟩ := Option.bind_eq_some_iff.mp HH2
                obtain ⟨⟨T1, T2, T3⟩, hT, hZ⟩ := Option.bind_eq_some_iff.mp hZ
                simp only [Option.some.injEq, Prod.mk.injEq] at hZ
                obtain ⟨rfl, rfl⟩ := hZ
                have HT := Aside0.mk hT
                have HZ := Aside0.mk HH2
                clear hT HH2 hr3 hnl
                go_wp2_with (first | (go_at_call 31; refine Aside0.out ?_))
                refine Aside0.mk ?_
                obtain rfl := HNL.out
                refine (reach_any 29 _ (fitO1 l0 a1 a2_0 a2_1) An cn (nearL E2 R1) T1 T2 T3 _ (enters_of Try.func29 (by kernel_rfl) rfl) (HA3.out.fit hr0 hc0 (nearL E2 R1)) HN.out HT.out).mono ?_
                rintro e_ W4 ⟨rfl, hb4⟩
                have HA4 := Aside0.mk (HA3.out.below hb4)
                have HH3 := HZ.out
                clear HZ HA3 HN HT g2 g2n hb4
                by_cases ht3 : T3 = 0
                · have g3 : (T3 == 0) = true := beq_iff_eq.2 ht3
                  have g3b : (T3 != 0) = false := bne_eq_false_iff_eq.2 ht3
                  replace HH3 := (if_pos ht3).symm.trans HH3
                  clear ht3
                  obtain ⟨⟨L1, L2⟩, hL, hz⟩ := Option.bind_eq_some_iff.mp HH3
                  simp only [Option.some.injEq, Prod.mk.injEq] at hz
                  obtain ⟨rfl, rfl, rfl, rfl⟩ := hz
                  have HL := Aside0.mk hL
                  clear hL HH3
                  have cl := HA4.out.xl.cell
                  have cf := HA4.out.xf.cell
                  go_wp2_with (first | (go_at_call 32; refine Aside0.out ?_))
                  refine Aside0.mk ?_
                  refine (fill_last.calls k A0 c0 l0 a1 L1 L2 _ (Kd.C_below hr0 HA4.out.bel) hc0 HL.out).mono ?_
                  rintro e_ W5 ⟨rfl, ⟨m5, rfl⟩⟩
                  have HA5 := Aside0.mk (HA4.out.below (pw_below_drewN (Below.refl _ _) m5))
                  obtain ⟨⟨f1, f2, f3⟩, f4, f5, f6⟩ := FIN.out _ HA5.out
                  have cf5 := HA5.out.xf.cell
                  clear cl cf HL
                  cases L2 with
                  | true =>
                    go_wp2_with fail
                    refine bodyPost_ret (results_st_ rfl Try.underlying43 (by kernel_rfl) _ _ (w.heap.size + 3) _ _ _ _ rfl rfl (blk3_ HA5.out.xo _ _ _)) rfl ⟨rfl, bel3_ HA5.out.bel (by omega) _ _ _⟩
                  | false =>
                    go_wp2_with fail
                    refine bodyPost_ret (results_st_ rfl Try.underlying43 (by kernel_rfl) _ _ (w.heap.size + 3) _ _ _ _ rfl rfl (blk3_ HA5.out.xo _ _ _)) rfl ⟨rfl, bel3_ HA5.out.bel (by omega) _ _ _⟩
                · have g3 : (T3 == 0) = false := beq_eq_false_iff_ne.2 ht3
                  have g3b : (T3 != 0) = true := bne_iff_ne.2 ht3
                  replace HH3 := (if_neg ht3).symm.trans HH3
                  clear ht3
                  simp only [Option.some.injEq, Prod.mk.injEq] at HH3
                  obtain ⟨rfl, rfl, rfl, rfl⟩ := HH3
                  obtain ⟨⟨f1, f2, f3⟩, f4, f5, f6⟩ := FIN.out _ HA4.out
                  go_wp2_with fail
                  refine bodyPost_ret (results_st_ rfl Try.underlying43 (by kernel_rfl) _ _ (w.heap.size + 3) _ _ _ _ rfl rfl (blk3_ HA4.out.xo _ _ _)) rfl ⟨rfl, bel3_ HA4.out.bel (by omega) _ _ _⟩
              · rw [if_neg (fun hc => hnl hc.2.2), Option.bind_some, if_pos hr3] at HH2
                have hn0 : (nearL E2 R1).length = 0 := by omega
                rw [hn0]
                clear hr3 hnl hn0 HN
                obtain ⟨⟨L1, L2⟩, hL, hz⟩ := Option.bind_eq_some_iff.mp HH2
                simp only [Option.some.injEq, Prod.mk.injEq] at hz
                obtain ⟨rfl, rfl, rfl, rfl⟩ := hz
                have HL := Aside0.mk hL
                clear hL HH2
                have cl := HA3.out.xl.cell
                have cf := HA3.out.xf.cell
                go_wp2_with (first | (go_at_call 32; refine Aside0.out ?_))
                refine Aside0.mk ?_
                refine (fill_last.calls k A0 c0 l0 a1 L1 L2 _ (Kd.C_below hr0 HA3.out.bel) hc0 HL.out).mono ?_
                rintro e_ W5 ⟨rfl, ⟨m5, rfl⟩⟩
                have HA5 := Aside0.mk (HA3.out.below (pw_below_drewN (Below.refl _ _) m5))
                obtain ⟨⟨f1, f2, f3⟩, f4, f5, f6⟩ := FIN.out _ HA5.out
                have cf5 := HA5.out.xf.cell
                clear cl cf HL
                cases L2 with
                | true =>
                  go_wp2_with fail
                  refine bodyPost_ret (results_st_ rfl Try.underlying43 (by kernel_rfl) _ _ (w.heap.size + 3) _ _ _ _ rfl rfl (blk3_ HA5.out.xo _ _ _)) rfl ⟨rfl, bel3_ HA5.out.bel (by omega) _ _ _⟩
                | false =>
                  go_wp2_with fail
                  refine bodyPost_ret (results_st_ rfl Try.underlying43 (by kernel_rfl) _ _ (w.heap.size + 3) _ _ _ _ rfl rfl (blk3_ HA5.out.xo _ _ _)) rfl ⟨rfl, bel3_ HA5.out.bel (by omega) _ _ _⟩
          · have g1 : (R3 == 0) = false := beq_eq_false_iff_ne.2 hr3
            have g1b : (R3 != 0) = true := bne_iff_ne.2 hr3
            rw [if_neg (fun hc => hr3 hc.1), Option.bind_some, if_neg hr3] at HH2
            clear hr3
            simp only [Option.some.injEq, Prod.mk.injEq] at HH2
            obtain ⟨rfl, rfl, rfl, rfl⟩ := HH2
            obtain ⟨⟨f1, f2, f3⟩, f4, f5, f6⟩ := FIN.out _ HA3.out
            go_wp2_with fail
            refine bodyPost_ret (results_st_ rfl Try.underlying43 (by kernel_rfl) _ _ (w.heap.size + 3) _ _ _ _ rfl rfl (blk3_ HA3.out.xo _ _ _)) rfl ⟨rfl, bel3_ HA3.out.bel (by omega) _ _ _⟩
  · have d1 : (e != 0) = true := bne_iff_ne.2 he
    replace H := (if_neg he).symm.trans H
    simp only [Option.some.injEq, Prod.mk.injEq] at H
    obtain ⟨rfl, rfl, rfl, rfl⟩ := H
    obtain ⟨⟨f1, f2, f3⟩, f4, f5, f6⟩ := FIN.out W1 HA1.out
    clear he
    go_wp2_with fail
    refine bodyPost_ret (results_st_ rfl Try.underlying43 (by kernel_rfl) _ _ (w.heap.size + 3) _ _ _ _ rfl rfl (blk3_ HA1.out.xo _ _ _)) rfl ⟨rfl, bel3_ HA1.out.bel (by omega) _ _ _⟩
end

end Go.Proofs.Ytdmlnkgpjileaaa.HFirstC
