-- Written by this claim's own program over the kit's print.
import Derived.Test.YtkaiibipcnlaiaaHEllWx0
import Derived.Test.YtkaiibipcnlaiaaHEllWx1
import Derived.Test.YtkaiibipcnlaiaaHEllWx2
import Derived.Test.YtkaiibipcnlaiaaHEllWx8
import Derived.Test.YtkaiibipcnlaiaaHEllWx10
import Derived.Test.YtkaiibipcnlaiaaHEllWx12
import Derived.Test.YtkaiibipcnlaiaaMB
import Derived.StillTailTactics
import Derived.Laws.Externs
import Derived.BigFrameIn
import Derived.Lib.Hide
import Derived.Sort.LoopGhostIn
import Derived.BigQuiet
import Derived.Test.YtkaiibipcnlaiaaHEllWb
namespace Go.Proofs.Ytkaiibipcnlaiaa.HEllW
open Go.RowKit Go.Proofs.YtkaiibipcnlaiaaW.PrintWords Go.Proofs.YtkaiibipcnlaiaaW.PrintLast Go.Proofs.YtkaiibipcnlaiaaW.PrintMore
attribute [local go_sem] max2_int min2_int max_two min_two max_three min_three max_four min_four   -- for this text's walks alone
set_option linter.unusedVariables false
set_option linter.unusedSimpArgs false

-- BY HAND: function 10
section
open Go.Proofs.Ytkaiibipcnlaiaa.Hand
attribute [local go_sem] Oper.semAt_some
theorem results_i_ {P : Program} {fn : Func} {p : Tmp} {ty : TypeId} {k : IntKind} (h : fn.results = #[.cell p ty]) (hu : P.underlying ty = some (.int k))
    (tmps : Array Value) (w : World) (g : Nat) (v : Value) (hp : tmps.getD p undef = .pointer (some ⟨g, 0, none⟩)) (hv : w.cell? ⟨g, 0, none⟩ = some v) :
    (results fn tmps).run P w = .ok v w := by
  have h1 : tmps[p]?.getD undef = .pointer (some ⟨g, 0, none⟩) := by simpa using hp
  have e1 := run_underlying hu
  simp [results, h, h1, asAddr, loadVar, isAgg, e1, go_sem, hv]
theorem leave_i_ {P : Program} {fn : Func} {w : World} {F : Fence} {n : Nat} {tmps : Array Value} {R : Ending → World → Prop} {p : Tmp} {ty : TypeId} {k : IntKind} (h : fn.results = #[.cell p ty]) (hu : P.underlying ty = some (.int k))
    (g : Nat) (v : Value) (hp : tmps.getD p undef = .pointer (some ⟨g, 0, none⟩)) (hv : w.cell? ⟨g, 0, none⟩ = some v)
    (hR : R (.returned v) w) : LeavesInM F n P fn tmps R [] .returning w := ⟨_, results_i_ h hu tmps w g v hp hv, hR⟩
/-- What lies while the first is sought. -/
structure FirstAt (w : World) (gi : Nat) (cap : Array Value) (a : Int) (W : World) : Prop where
  xf : Boxed W w.heap.size 69 (.func (.func gi) #[] cap)
  xr : Boxed W (w.heap.size + 1) 3 (.int .i64 a)
  bel : Below w.heap.size w W
theorem FirstAt.bide {w : World} {gi : Nat} {cap : Array Value} {a : Int} {B : Nat} (hB : w.heap.size ≤ B) : Bide B (fun W => FirstAt w gi cap a W) := fun X Y row h hg hr =>
  ⟨Bide.boxed _ _ _ X Y row h.xf hg hr, Bide.boxed _ _ _ X Y row h.xr hg hr, Bide.below (Nat.le_refl _) hB X Y row h.bel hg hr⟩
theorem FirstAt.below {w : World} {gi : Nat} {cap : Array Value} {a : Int} {W W' : World} (h : FirstAt w gi cap a W) (hb : Below W.heap.size W W') : FirstAt w gi cap a W' :=
  ⟨boxed_below h.xf hb, boxed_below h.xr hb, below_step h.bel hb⟩
theorem FirstAt.setR {w : World} {gi : Nat} {cap : Array Value} {a : Int} {W : World} (h : FirstAt w gi cap a W) (a' : Int) : FirstAt w gi cap a' (W.setCell ⟨w.heap.size + 1, 0, none⟩ (.int .i64 a')) :=
  ⟨blk_far (p := ⟨w.heap.size + 1, 0, none⟩) h.xf (by simp) _, h.xr.set _, h.bel.setCell (p := ⟨w.heap.size + 1, 0, none⟩) (by simp) _⟩
def firstL (p : Int → Bool) (other : Int) : List Int → Int
  | [] => other
  | x :: xs => if p x = true then x else firstL p other xs
set_option maxRecDepth 100000 in
set_option maxHeartbeats 1000000 in
theorem first_any (gf : Nat) (lb : Array Value) (n₀ gi : Nat) (cap : Array Value) (Bs : List Nat) (p : Int → Bool) (xs : List Int) (other r : Int) (w : World) (eg : ∀ args w, (callFunc gf args).run Try.prog w = .ok (.enter gf args) w) (heg : ∀ args w, (callFunc gi args).run Try.prog w = .ok (.enter gi args) w)
    (hit : ∀ W, Below w.heap.size w W → IterS Try.prog gf lb (fun x : Int => #[.int .i64 x]) n₀ Bs xs W) (hn : n₀ ≤ w.heap.size) (hBs : ∀ B ∈ Bs, B < w.heap.size) (hcap : (Value.func (.func gi) #[] cap).oneCell' = true)
    (hf : ∀ (q : Int) (W : World), q ∈ xs → Below w.heap.size w W → Calls Try.prog gi (#[.int .i64 q] ++ cap) W fun e W' => e = .returned (.bool (p q)) ∧ Below W.heap.size W W') (h : firstL p other xs = r) :
    Calls Try.prog 24 #[.func (.func gf) #[] lb, .int .i64 other, .func (.func gi) #[] cap] w fun e w' => e = .returned (.int .i64 r) ∧ Below w.heap.size w w' := by
  have b1 := (Boxed.new w 69 (.func (.func gi) #[] cap)).alloc (.cells #[.int .i64 0] 3)
  have b2 := boxed_new (w.alloc (.cells #[.func (.func gi) #[] cap] 69)) (w.heap.size + 1) 3 (.int .i64 0) (by simp)
  have hb4 : Below w.heap.size w ((w.alloc (.cells #[.func (.func gi) #[] cap] 69)).alloc (.cells #[.int .i64 0] 3)) := below_alloc (below_alloc (Below.refl _ _) _) _
  have HI := Aside0.mk (hit _ hb4)
  have HA := Aside0.mk (show FirstAt w gi cap 0 ((w.alloc (.cells #[.func (.func gi) #[] cap] 69)).alloc (.cells #[.int .i64 0] 3)) from ⟨b1, b2, hb4⟩)
  have H := Aside0.mk h
  have HF := Aside0.mk hf
  clear b1 b2 hb4 hit h hf
  refine callsIn_wide.1 (callsIn_of_wp_marks (n := 9) Try.func24 rfl trivial (wpIn_wide.2 ?_) rfl)
  simp only [Try.ntmps24, List.size_toArray, List.length_cons, List.length_nil, Nat.reduceAdd, Nat.reduceSub, Array.replicate_succ, Array.replicate_zero, List.push_toArray, List.append_toArray, List.nil_append, List.cons_append]
  go_wp2_with fail
  refine wp_range (gf := gf) (lb := lb) (n₀ := n₀) (Bs := Bs) rfl eg HI.out (by simp; omega) (fun B hB => by have := hBs B hB; simp; omega) (fun _ => rfl)
    (fun pre W => ∃ rest, xs = pre ++ rest ∧ firstL p other rest = r ∧ FirstAt w gi cap 0 W) (fun c W => c = .ret ∧ FirstAt w gi cap r W)
    (fun pre => Bide.ex fun rest => Bide.and (Bide.const _) (Bide.and (Bide.const _) (FirstAt.bide (by simp; omega)))) (fun _ => Bide.and (Bide.const _) (FirstAt.bide (by simp; omega))) ⟨xs, rfl, H.out, HA.out⟩ ?a1 ?assign ?body ?done ?stop
  case assign =>
    intro l x W K hK
    gi_wp2
    exact hK
  case body =>
    rintro l pre x rest W hx hzW ⟨rest', hx2, hg, hA6⟩
    have hrr : rest' = x :: rest := List.append_cancel_left (hx2.symm.trans hx)
    subst hrr
    simp only [firstL] at hg
    simp only [World.size_alloc] at hzW
    have hmem : x ∈ xs := by rw [hx]; simp
    have HC := Aside0.mk (HF.out x W hmem hA6.bel)
    have q3 := hA6.xf.cell
    have HX := Aside0.mk hx2
    have HA6 := Aside0.mk hA6
    clear hA6 hx hx2 hmem HA H HI
    refine wpIn_block (wpIn_seq_k fun K hK => ?_)
    have HK := Lib.hid hK
    clear hK
    refine round_region (fun _ _ h => h) (by rfl) ?_
    go_wp2_with fail
    refine HC.out.mono ?_
    rintro e_ w5 ⟨rfl, hb5⟩
    have hA5 := HA6.out.below hb5
    have p0 := hA5.xr.cell
    have p0f := hA5.xr.frozen
    have HA5 := Aside0.mk hA5
    clear hA5
    go_wp2_with fail
    refine HK.out _ _ ?_
    clear HK HC
    cases hp : p x with
    | true =>
      rw [if_pos hp] at hg
      subst hg
      gi_wp2
      exact ⟨((Tame.refl n₀ Bs W).of_below hb5).setCell (p := ⟨w.heap.size + 1, 0, none⟩) HA5.out.xr (by simp; omega) (fun h => by have h2 : w.heap.size + 1 < w.heap.size := hBs _ h; omega) _, rfl, HA5.out.setR x⟩
    | false =>
      rw [if_neg (fun h => by rw [hp] at h; cases h)] at hg
      have HG := Aside0.mk hg
      clear hg
      gi_wp2
      exact ⟨(Tame.refl n₀ Bs W).of_below hb5, rest, by rw [HX.out]; simp, HG.out, HA5.out⟩
  case done =>
    rintro D W hD ⟨rest, hx, hg, hA6⟩ hK
    simp only [World.size_alloc] at hD
    have hr0 : rest = [] := by
      have h2 : xs ++ [] = xs ++ rest := by rw [List.append_nil]; exact hx
      exact (List.append_cancel_left h2).symm
    subst hr0
    simp only [firstL] at hg
    subst hg
    have p0 := hA6.xr.cell
    have p0f := hA6.xr.frozen
    have HA6 := Aside0.mk hA6
    clear hA6 HA H HI hx
    go_wp2_with fail
    have hK2 : (W.setCell ⟨w.heap.size + 1, 0, none⟩ (.int .i64 other)).heap[D]? = some (.deferred (some [])) := (Below.heap_setCell W ⟨w.heap.size + 1, 0, none⟩ _ D (by simp; omega)).trans hK
    have hA7 := (FirstAt.bide (B := w.heap.size) (Nat.le_refl _)).putObj (.deferred none) (HA6.out.setR other) (show w.heap.size ≤ D by omega) hK2 rfl
    exact leave_mark hK2 (leave_i_ rfl Try.underlying3 (w.heap.size + 1) _ rfl hA7.xr.cell ⟨rfl, hA7.bel⟩)
  case stop =>
    rintro D c W hD ⟨rfl, hA6⟩ hK
    simp only [World.size_alloc] at hD
    go_wp2_with fail
    have hA7 := (FirstAt.bide (B := w.heap.size) (Nat.le_refl _)).putObj (.deferred none) hA6 (show w.heap.size ≤ D by omega) hK rfl
    exact leave_mark hK (leave_i_ rfl Try.underlying3 (w.heap.size + 1) _ rfl hA7.xr.cell ⟨rfl, hA7.bel⟩)
def cutB (ps : List Int) (fr dots wd q : Int) : Bool := decide (wrap64 (rd ps (q - fr) + dots) ≤ wd)
abbrev cutOk (l0 : List S53) (l1 : List Bool) (fr te wd dots : Int) : Prop := insideB l0 l1 fr te ∧ 0 ≤ wd ∧ 0 ≤ dots ∧ dots ≤ 1073741824
def segC (l0 : List S53) (fr te : Int) : List S53 := (l0.take te.toNat).drop fr.toNat
def cutTo (ps : List Int) (l1 : List Bool) (fr te n wd dots : Int) : Int := if n > wd then firstL (cutB ps fr dots wd) fr (backL l1 fr te (l1.length + 2) te) else te
def ellipsis_Cut.f (l0 : List S53) (l1 : List Bool) (a2_0 a2_1 : Int) (_a2_2 : Bool) (a3_0 a3_1 a4 : Int) : Option (Int × Int × Bool × Int) :=
  if cutOk l0 l1 a2_0 a2_1 a3_0 a4 then
    (trim_Fits.f (segC l0 a2_0 a2_1) a3_1).bind fun n => (if n.2 = 0 then (trim_Roles.f (segC l0 a2_0 a2_1)).bind fun t => (tabs_Pens.f (segC l0 a2_0 a2_1) t a3_1).bind fun ps => (if ps.2 = 0 then (if (segC l0 a2_0 a2_1).length < ps.1.length then some (cutTo ps.1 l1 a2_0 a2_1 n.1 a3_0 a4, rd ps.1 (cutTo ps.1 l1 a2_0 a2_1 n.1 a3_0 a4 - a2_0), decide (n.1 > a3_0), 0) else none) else some (0, 0, false, ps.2)) else some (0, 0, false, n.2))
  else some (0, 0, false, 2)

/-- The three boxes, and what has been kept. -/
structure CutAt (a2_0 a2_1 : Int) (a2_2 : Bool) (a3_0 a3_1 a4 : Int) (w W : World) : Prop where
  xl : W.heap[w.heap.size]? = some (.cells #[.int .i64 a2_0, .int .i64 a2_1, .bool a2_2] 25 (0, 0))
  xr : W.heap[w.heap.size + 1]? = some (.cells #[.int .i64 a3_0, .int .i64 a3_1] 29 (0, 0))
  xd : W.heap[w.heap.size + 1 + 1]? = some (.cells #[.int .i64 a4] 2 (0, 0))
  bel : Below w.heap.size w W
theorem CutAt.below {a2_0 a2_1 : Int} {a2_2 : Bool} {a3_0 a3_1 a4 : Int} {w W W' : World} (h : CutAt a2_0 a2_1 a2_2 a3_0 a3_1 a4 w W) (hb : Below W.heap.size W W') : CutAt a2_0 a2_1 a2_2 a3_0 a3_1 a4 w W' :=
  ⟨blk_below h.xl hb, blk_below h.xr hb, blk_below h.xd hb, below_step h.bel hb⟩
theorem cut_boxes (a2_0 a2_1 : Int) (a2_2 : Bool) (a3_0 a3_1 a4 : Int) (w : World) : CutAt a2_0 a2_1 a2_2 a3_0 a3_1 a4 w (((w.alloc (.cells #[.int .i64 a2_0, .int .i64 a2_1, .bool a2_2] 25 (0, 0))).alloc (.cells #[.int .i64 a3_0, .int .i64 a3_1] 29 (0, 0))).alloc (.cells #[.int .i64 a4] 2 (0, 0))) := by
  have h1 := World.alloc_heap_new w (.cells #[.int .i64 a2_0, .int .i64 a2_1, .bool a2_2] 25 (0, 0))
  have h2 := World.alloc_heap_new (w.alloc (.cells #[.int .i64 a2_0, .int .i64 a2_1, .bool a2_2] 25 (0, 0))) (.cells #[.int .i64 a3_0, .int .i64 a3_1] 29 (0, 0))
  have h3 := World.alloc_heap_new ((w.alloc (.cells #[.int .i64 a2_0, .int .i64 a2_1, .bool a2_2] 25 (0, 0))).alloc (.cells #[.int .i64 a3_0, .int .i64 a3_1] 29 (0, 0))) (.cells #[.int .i64 a4] 2 (0, 0))
  rw [World.size_alloc] at h2
  rw [World.size_alloc, World.size_alloc] at h3
  have b2 := below_alloc (Below.refl (w.alloc (.cells #[.int .i64 a2_0, .int .i64 a2_1, .bool a2_2] 25 (0, 0))).heap.size (w.alloc (.cells #[.int .i64 a2_0, .int .i64 a2_1, .bool a2_2] 25 (0, 0)))) (.cells #[.int .i64 a3_0, .int .i64 a3_1] 29 (0, 0))
  have b3 := below_alloc (Below.refl ((w.alloc (.cells #[.int .i64 a2_0, .int .i64 a2_1, .bool a2_2] 25 (0, 0))).alloc (.cells #[.int .i64 a3_0, .int .i64 a3_1] 29 (0, 0))).heap.size ((w.alloc (.cells #[.int .i64 a2_0, .int .i64 a2_1, .bool a2_2] 25 (0, 0))).alloc (.cells #[.int .i64 a3_0, .int .i64 a3_1] 29 (0, 0)))) (.cells #[.int .i64 a4] 2 (0, 0))
  exact ⟨blk_below (blk_below h1 b2) b3, blk_below h2 b3, h3, below_alloc (below_alloc (below_alloc (Below.refl _ _) _) _) _⟩
set_option maxRecDepth 100000 in
set_option maxHeartbeats 2000000 in
theorem cut_bad (A0 : Option Addr) (c0 : Nat) (l0 : List (S53)) (A1 : Option Addr) (c1 : Nat) (l1 : List Bool) (a2_0 a2_1 : Int) (a2_2 : Bool) (a3_0 a3_1 a4 : Int) (w : World) (hr0 : Kd.C k53 w A0 l0.length l0) (hc0 : l0.length ≤ c0) (hr1 : Kd.C Kd.bool w A1 l1.length l1) (hc1 : l1.length ≤ c1) (hbad : ¬ cutOk l0 l1 a2_0 a2_1 a3_0 a4) :
    Calls Try.prog 10 #[.slice A0 l0.length c0, .slice A1 l1.length c1, .agg #[.int .i64 a2_0, .int .i64 a2_1, .bool a2_2], .agg #[.int .i64 a3_0, .int .i64 a3_1], .int .i64 a4] w fun e w' => e = .returned (.tuple #[.int .i64 0, .int .i64 0, .bool false, .int .i64 2]) ∧ Below w.heap.size w w' := by
  have hu := Try.underlying25
  have hu2 := Try.underlying29
  have HWI := Aside0.mk (within_eq l0 l1 a2_0 a2_1 a2_2)
  have HB1 := Aside0.mk (cut_boxes a2_0 a2_1 a2_2 a3_0 a3_1 a4 w)
  by_cases hin : insideB l0 l1 a2_0 a2_1
  · rw [decide_eq_true hin] at HWI
    by_cases h1 : a3_0 < 0
    · have d1 : decide (a3_0 < 0) = true := decide_eq_true h1
      clear hbad hin h1
      go_enter Try.func10, Try.ntmps10
      go_wp2_with (first | (go_at_call 23; refine Aside0.out ?_))
      refine Aside0.mk ?_
      refine (ellipsis_within.calls A0 c0 l0 A1 c1 l1 a2_0 a2_1 a2_2 true _ (Kd.C_below hr0 HB1.out.bel) hc0 (Kd.C_below hr1 HB1.out.bel) hc1 HWI.out).mono ?_
      rintro e_ w5 ⟨rfl, hb5⟩
      have HB5 := Aside0.mk (HB1.out.below hb5)
      clear hb5 HB1
      have y0 := blk_cell HB5.out.xr 0
      go_wp2_with fail
      refine bodyPost_ret (results_list (rs := [.tmp 10, .tmp 11, .tmp 12, .tmp 13]) rfl (by simp) (.tmp (.tmp (.tmp (.tmp .nil))))) rfl ?_
      exact ⟨rfl, HB5.out.bel⟩
    · have d1 : decide (a3_0 < 0) = false := decide_eq_false h1
      by_cases h2 : a4 < 0
      · have d2 : decide (a4 < 0) = true := decide_eq_true h2
        clear hbad hin h1 h2
        go_enter Try.func10, Try.ntmps10
        go_wp2_with (first | (go_at_call 23; refine Aside0.out ?_))
        refine Aside0.mk ?_
        refine (ellipsis_within.calls A0 c0 l0 A1 c1 l1 a2_0 a2_1 a2_2 true _ (Kd.C_below hr0 HB1.out.bel) hc0 (Kd.C_below hr1 HB1.out.bel) hc1 HWI.out).mono ?_
        rintro e_ w5 ⟨rfl, hb5⟩
        have HB5 := Aside0.mk (HB1.out.below hb5)
        clear hb5 HB1
        have y0 := blk_cell HB5.out.xr 0
        have z0 := blk_cell HB5.out.xd 0
        go_wp2_with fail
        refine bodyPost_ret (results_list (rs := [.tmp 10, .tmp 11, .tmp 12, .tmp 13]) rfl (by simp) (.tmp (.tmp (.tmp (.tmp .nil))))) rfl ?_
        exact ⟨rfl, HB5.out.bel⟩
      · have d2 : decide (a4 < 0) = false := decide_eq_false h2
        have h3 : 1073741824 < a4 := Int.not_le.1 fun h3 => hbad ⟨hin, Int.not_lt.1 h1, Int.not_lt.1 h2, h3⟩
        have d3 : decide (1073741824 < a4) = true := decide_eq_true h3
        clear hbad hin h1 h2 h3
        go_enter Try.func10, Try.ntmps10
        go_wp2_with (first | (go_at_call 23; refine Aside0.out ?_))
        refine Aside0.mk ?_
        refine (ellipsis_within.calls A0 c0 l0 A1 c1 l1 a2_0 a2_1 a2_2 true _ (Kd.C_below hr0 HB1.out.bel) hc0 (Kd.C_below hr1 HB1.out.bel) hc1 HWI.out).mono ?_
        rintro e_ w5 ⟨rfl, hb5⟩
        have HB5 := Aside0.mk (HB1.out.below hb5)
        clear hb5 HB1
        have y0 := blk_cell HB5.out.xr 0
        have z0 := blk_cell HB5.out.xd 0
        go_wp2_with fail
        refine bodyPost_ret (results_list (rs := [.tmp 10, .tmp 11, .tmp 12, .tmp 13]) rfl (by simp) (.tmp (.tmp (.tmp (.tmp .nil))))) rfl ?_
        exact ⟨rfl, HB5.out.bel⟩
  · rw [decide_eq_false hin] at HWI
    clear hbad hin
    go_enter Try.func10, Try.ntmps10
    go_wp2_with (first | (go_at_call 23; refine Aside0.out ?_))
    refine Aside0.mk ?_
    refine (ellipsis_within.calls A0 c0 l0 A1 c1 l1 a2_0 a2_1 a2_2 false _ (Kd.C_below hr0 HB1.out.bel) hc0 (Kd.C_below hr1 HB1.out.bel) hc1 HWI.out).mono ?_
    rintro e_ w5 ⟨rfl, hb5⟩
    have HB5 := Aside0.mk (HB1.out.below hb5)
    clear hb5 HB1
    go_wp2_with fail
    refine bodyPost_ret (results_list (rs := [.tmp 10, .tmp 11, .tmp 12, .tmp 13]) rfl (by simp) (.tmp (.tmp (.tmp (.tmp .nil))))) rfl ?_
    exact ⟨rfl, HB5.out.bel⟩
theorem region_join {P : Program} {id : Nat} {ops : Array Oper} {b : Bool} {Q : Exit → Act → World → Prop} {a : Act} {w : World} {σ : Type} (ns : σ → List (Tmp × Value)) (F : σ → World → Prop)
    (hcont : ∀ s w', F s w' → Q .normal (putAll a (ns s)) w') (h : (∀ s w', F s w' → Q .normal (putAll a (ns s)) w') → (Code.region id ops b).wp P Q a w) : (Code.region id ops b).wp P Q a w := h hcont
theorem CutAt.setFar {a2_0 a2_1 : Int} {a2_2 : Bool} {a3_0 a3_1 a4 : Int} {w W : World} (h : CutAt a2_0 a2_1 a2_2 a3_0 a3_1 a4 w W) (g : Nat) (hg : w.heap.size + 1 + 1 < g) (v : Value) : CutAt a2_0 a2_1 a2_2 a3_0 a3_1 a4 w (W.setCell ⟨g, 0, none⟩ v) :=
  ⟨blk_far (p := ⟨g, 0, none⟩) h.xl (by simp; omega) _, blk_far (p := ⟨g, 0, none⟩) h.xr (by simp; omega) _, blk_far (p := ⟨g, 0, none⟩) h.xd (by simp; omega) _, h.bel.setCell (p := ⟨g, 0, none⟩) (by simp; omega) _⟩
theorem CutAt.lt {a2_0 a2_1 : Int} {a2_2 : Bool} {a3_0 a3_1 a4 : Int} {w W : World} (h : CutAt a2_0 a2_1 a2_2 a3_0 a3_1 a4 w W) : w.heap.size + 1 + 1 < W.heap.size := (Array.getElem?_eq_some_iff.1 h.xd).1
set_option maxRecDepth 100000 in
set_option maxHeartbeats 1000000 in
theorem cut1_any (a2_0 a2_1 : Int) (a2_2 : Bool) (a3_0 a3_1 a4 : Int) (w W : World) (hC : CutAt a2_0 a2_1 a2_2 a3_0 a3_1 a4 w W) (gb : Nat) (A : Option Addr) (c : Nat) (ps : List Int) (q : Int) (hB : Boxed W gb 55 (.slice A ps.length c)) (hK : Kd.C (Kd.int .i64) W A ps.length ps) (h0 : 0 ≤ q - a2_0) (h1 : q - a2_0 < (ps.length : Int)) :
    Calls Try.prog 26 #[.int .i64 q, .pointer (some ⟨gb, 0, none⟩), .pointer (some ⟨w.heap.size, 0, none⟩), .pointer (some ⟨w.heap.size + 1 + 1, 0, none⟩), .pointer (some ⟨w.heap.size + 1, 0, none⟩)] W fun e W' => e = .returned (.bool (cutB ps a2_0 a4 a3_0 q)) ∧ Below W.heap.size W W' := by
  have hl : ps.length ≤ 9223372036854775807 := hK.2.1
  obtain ⟨ad, rfl, hx⟩ := Kd.at_int hK (q - a2_0) h0 h1
  have e1 : IntKind.i64.wrap (q - a2_0) = q - a2_0 := IntWalk.i64_in _ (by omega)
  have x0 := blk_cell hC.xl 0
  have y0 := blk_cell hC.xr 0
  have z0 := blk_cell hC.xd 0
  have bx := hB.cell
  unfold cutB
  clear hC hB hK
  go_enter Try.func26, Try.ntmps26
  go_wp2_with fail
  go_quiet (fail)
  simp only [Exit.then]
  go_wp2_with fail
  go_ret
  exact ⟨rfl, pw_below_drewN (Below.refl _ _) _⟩
theorem backL_in (l : List Bool) (fr te : Int) : ∀ (n : Nat) (p : Int), p ≤ te → ∀ q ∈ backL l fr te n p, fr ≤ q ∧ q ≤ te
  | 0, _, _, q, hq => by cases hq
  | n + 1, p, hp, q, hq => by
    unfold backL at hq
    split at hq
    · split at hq
      · rcases List.mem_cons.1 hq with rfl | h
        · omega
        · exact backL_in l fr te n (p - 1) (by omega) q h
      · exact backL_in l fr te n (p - 1) (by omega) q hq
    · cases hq
theorem firstL_in (p : Int → Bool) (other : Int) : ∀ xs : List Int, firstL p other xs = other ∨ firstL p other xs ∈ xs
  | [] => .inl rfl
  | x :: xs => by
    unfold firstL
    split
    · exact .inr (List.mem_cons_self ..)
    · rcases firstL_in p other xs with h | h
      · exact .inl h
      · exact .inr (List.mem_cons_of_mem _ h)
theorem cutTo_in (ps : List Int) (l1 : List Bool) (fr te n wd dots : Int) (h : fr ≤ te) : fr ≤ cutTo ps l1 fr te n wd dots ∧ cutTo ps l1 fr te n wd dots ≤ te := by
  unfold cutTo
  split
  · rcases firstL_in (cutB ps fr dots wd) fr (backL l1 fr te (l1.length + 2) te) with h2 | h2
    · rw [h2]; omega
    · exact backL_in l1 fr te _ te (Int.le_refl _) _ h2
  · omega
set_option maxRecDepth 100000 in
set_option maxHeartbeats 4000000 in
theorem cut_good (A0 : Option Addr) (c0 : Nat) (l0 : List (S53)) (A1 : Option Addr) (c1 : Nat) (l1 : List Bool) (a2_0 a2_1 : Int) (a2_2 : Bool) (a3_0 a3_1 a4 : Int) (r1 r2 : Int) (r3 : Bool) (r4 : Int) (w : World) (hr0 : Kd.C k53 w A0 l0.length l0) (hc0 : l0.length ≤ c0) (hr1 : Kd.C Kd.bool w A1 l1.length l1) (hc1 : l1.length ≤ c1) (hok : cutOk l0 l1 a2_0 a2_1 a3_0 a4) (h : ellipsis_Cut.f l0 l1 a2_0 a2_1 a2_2 a3_0 a3_1 a4 = some (r1, r2, r3, r4)) :
    Calls Try.prog 10 #[.slice A0 l0.length c0, .slice A1 l1.length c1, .agg #[.int .i64 a2_0, .int .i64 a2_1, .bool a2_2], .agg #[.int .i64 a3_0, .int .i64 a3_1], .int .i64 a4] w fun e w' => e = .returned (.tuple #[.int .i64 r1, .int .i64 r2, .bool r3, .int .i64 r4]) ∧ Below w.heap.size w w' := by
  unfold ellipsis_Cut.f at h
  rw [if_pos hok] at h
  obtain ⟨⟨n1, n2⟩, hF, h⟩ := Option.bind_eq_some_iff.mp h
  obtain ⟨hin, hw0, hd0, hd1⟩ := hok
  have hu := Try.underlying25
  have hu2 := Try.underlying29
  have HWI := Aside0.mk (within_eq l0 l1 a2_0 a2_1 a2_2)
  have HB1 := Aside0.mk (cut_boxes a2_0 a2_1 a2_2 a3_0 a3_1 a4 w)
  rw [decide_eq_true hin] at HWI
  have d1 : decide (a3_0 < 0) = false := decide_eq_false (by omega)
  have d2 : decide (a4 < 0) = false := decide_eq_false (by omega)
  have d3 : decide (1073741824 < a4) = false := decide_eq_false (by omega)
  obtain ⟨i036, hi036, _, hsz36, _⟩ := info_parts info53
  have hcut := cut_mid (P := Try.prog) 22 53 .i64 .i64 Try.underlying22 hi036 6 hsz36 A0 l0.length c0 a2_0 a2_1 hin.2.1 hin.2.2.1 hin.2.2.2 hc0
  have hr2 := Kd.C_mid (lo := a2_0.toNat) (hi := a2_1.toNat) (c := c0) hr0 (by omega) (by omega) hc0
  obtain ⟨ys, hys⟩ : ∃ ys, segC l0 a2_0 a2_1 = ys := ⟨_, rfl⟩
  have hys2 : (l0.take a2_1.toNat).drop a2_0.toNat = ys := hys
  have hyl : ys.length = a2_1.toNat - a2_0.toNat := by rw [← hys2, List.length_drop, List.length_take]; omega
  obtain ⟨A2, hA2⟩ : ∃ A1, A1 = (if c0 = a2_0.toNat then A0 else (A0 : Option Addr).map (·.add (a2_0.toNat * 6))) := ⟨_, rfl⟩
  obtain ⟨c2, hc2⟩ : ∃ c1, c1 = c0 - a2_0.toNat := ⟨_, rfl⟩
  rw [hys2] at hr2
  replace hr2 : Kd.C k53 w A2 ys.length ys := by rw [hA2]; exact hr2
  rw [← hyl, ← hA2, ← hc2] at hcut
  have HYC := Aside0.mk (show ys.length ≤ c2 from by rw [hyl, hc2]; omega)
  have HYS := Aside0.mk hr2
  rw [hys] at h hF
  have HFI := Aside0.mk hF
  have HYL := Aside0.mk hyl
  have HIN := Aside0.mk hin
  have HW := Aside0.mk hw0
  have HD := Aside0.mk (show 0 ≤ a4 ∧ a4 ≤ 1073741824 from ⟨hd0, hd1⟩)
  clear hr2 hF hyl hA2 hc2 hys hys2 hi036 hsz36 hin hw0 hd0 hd1
  go_enter Try.func10, Try.ntmps10
  go_wp2_with (first | (go_at_call 23; refine Aside0.out ?_))
  refine Aside0.mk ?_
  refine (ellipsis_within.calls A0 c0 l0 A1 c1 l1 a2_0 a2_1 a2_2 true _ (Kd.C_below hr0 HB1.out.bel) hc0 (Kd.C_below hr1 HB1.out.bel) hc1 HWI.out).mono ?_
  rintro e_ w5 ⟨rfl, hb5⟩
  have HB5 := Aside0.mk (HB1.out.below hb5)
  clear hb5 HB1
  have x0 := blk_cell HB5.out.xl 0
  have x1 := blk_cell HB5.out.xl 1
  have x2 := blk_cell HB5.out.xl 2
  have y0 := blk_cell HB5.out.xr 0
  have y1 := blk_cell HB5.out.xr 1
  have z0 := blk_cell HB5.out.xd 0
  go_wp2_with (first | (go_at_call 20; refine Aside0.out ?_))
  refine Aside0.mk ?_
  refine (trim_Fits.calls A2 c2 ys a3_1 n1 n2 _ (Kd.C_below HYS.out HB5.out.bel) HYC.out HFI.out).mono ?_
  rintro e_ w6 ⟨rfl, hb6⟩
  have HC := Aside0.mk (HB5.out.below hb6)
  clear hb6 HB5 HFI x0 x1 x2 y0 y1 z0 d1 d2 d3 hcut HWI
  by_cases hn : n2 = 0
  · rw [if_pos hn] at h
    have d4 : (n2 != 0) = false := bne_eq_false_iff_eq.2 hn
    clear hn
    obtain ⟨ts, hts, h⟩ := Option.bind_eq_some_iff.mp h
    obtain ⟨⟨ps, p2⟩, hps, h⟩ := Option.bind_eq_some_iff.mp h
    have HT := Aside0.mk hts
    have HPE := Aside0.mk hps
    have H := Aside0.mk h
    clear hts hps h
    go_wp2_with fail
    refine region_join (σ := Nat × Option Addr × Nat × Option Addr × Nat) (fun s => [(52, .slice A2 ys.length c2), (53, .slice A2 ys.length c2), (55, .pointer (some ⟨w.heap.size + 1, 1, none⟩)), (56, .int .i64 a3_1), (54, .slice s.2.2.2.1 ts.length s.2.2.2.2), (57, .tuple #[.slice s.2.1 ps.length s.2.2.1, .int .i64 p2]), (51, .tuple #[.slice s.2.1 ps.length s.2.2.1, .int .i64 p2]), (58, .slice s.2.1 ps.length s.2.2.1), (59, .int .i64 p2), (16, .pointer (some ⟨s.1, 0, none⟩)), (13, .int .i64 p2)])
      (fun s W => CutAt a2_0 a2_1 a2_2 a3_0 a3_1 a4 w W ∧ Boxed W s.1 55 (.slice s.2.1 ps.length s.2.2.1) ∧ w.heap.size + 1 + 1 < s.1 ∧ Kd.C (Kd.int .i64) W s.2.1 ps.length ps) ?hcont (fun HCONT => ?hway)
    case hway =>
      replace HC := Aside0.mk (show CutAt a2_0 a2_1 a2_2 a3_0 a3_1 a4 w w6.drew from HC.out.below (below_drew1 (Below.refl _ _)))
      refine start_ (n := 12) (S := fun w' => w'.cell? ⟨w.heap.size + 1, 0, none⟩ = some (.int .i64 a3_0) ∧ w'.cell? ⟨w.heap.size + 1, 1, none⟩ = some (.int .i64 a3_1)) (ds := []) #[false, false, false, false, false, false, false, false, false, false, false, false] (by kernel_rfl) rfl rfl ⟨blk_cell HC.out.xr 0, blk_cell HC.out.xr 1⟩ (fun hHeld => ?_)
      generalize w6.drew = w7 at HC hHeld ⊢
      refine pure_ (i := 0) (N := some 52) (v := ?_) (a' := ?_) #[true, false, false, false, false, false, false, false, false, false, false, false] rfl rfl (by kernel_rfl) (fun _ _ _ h => h) (Or.inl ⟨by rfl, ?_⟩) ?_ ?_
      rotate_left; (focus intro w'; go_simp; with_reducible rfl); rotate_left; (focus simp only [Act.put, List.setIfInBounds_toArray, List.set_cons_zero, List.set_cons_succ, i64_w, i32_w]; rfl)
      refine pure_ (i := 1) (N := some 53) (v := ?_) (a' := ?_) #[true, true, false, false, false, false, false, false, false, false, false, false] rfl rfl (by kernel_rfl) (fun _ _ _ h => h) (Or.inl ⟨by rfl, ?_⟩) ?_ ?_
      rotate_left; (focus intro w'; go_simp; with_reducible rfl); rotate_left; (focus simp only [Act.put, List.setIfInBounds_toArray, List.set_cons_zero, List.set_cons_succ, i64_w, i32_w]; rfl)
      refine pure_ (i := 3) (N := some 55) (v := ?_) (a' := ?_) #[true, true, false, true, false, false, false, false, false, false, false, false] rfl rfl (by kernel_rfl) (fun _ _ _ h => h) (Or.inl ⟨by rfl, ?_⟩) ?_ ?_
      rotate_left; (focus intro w'; go_simp; with_reducible rfl); rotate_left; (focus simp only [Act.put, List.setIfInBounds_toArray, List.set_cons_zero, List.set_cons_succ, i64_w, i32_w]; rfl)
      refine take_ (i := 4) (N := some 56) (v := ?_) (a' := ?_) #[true, true, false, true, true, false, false, false, false, false, false, false] rfl rfl (by kernel_rfl) (fun _ _ _ h => h) (Or.inl ⟨by rfl, ?_⟩) hHeld ?_ ?_
      rotate_left; (focus rintro w' ⟨s0, s1⟩; go_simp; with_reducible rfl); rotate_left; (focus simp only [Act.put, List.setIfInBounds_toArray, List.set_cons_zero, List.set_cons_succ, i64_w, i32_w]; rfl)
      refine two_ (i := 2) (j := 9) (Ni := some 54) (Nj := some 16) #[true, true, true, true, true, false, false, false, false, false, false, false] #[true, true, false, true, true, false, false, false, false, true, false, false] rfl rfl rfl rfl (by kernel_rfl) (by decide) (by decide) (fun K hK => ?_) (fun K hK => ?_)
      · skip
        refine goes_ Try.func19 (by kernel_rfl) rfl #[.slice A2 ys.length c2] (by rfl) rfl rfl (by (try simp only [List.map_toArray, List.map_cons, List.map_nil]); rfl) ?_
        refine (trim_Roles.calls A2 c2 ys ts _ (Kd.C_below HYS.out HC.out.bel) HYC.out HT.out).mono ?_
        rintro e w8 ⟨v8, rfl, ho, hb⟩
        refine ⟨_, rfl, ?_⟩
        obtain ⟨A3, c3, rfl⟩ := Kd.R_slice ho
        have HO := Aside0.mk ho
        replace HC := Aside0.mk (HC.out.below hb)
        clear hb ho
        refine hK.out _ _ ⟨blk_cell HC.out.xr 0, blk_cell HC.out.xr 1⟩ (fun hHeld => ?_)
        clear hK K
        refine norm_ (a' := ?_) ?_ ?_
        rotate_left; (focus show Act.put _ (some 54) _ = _; simp only [Act.put, List.setIfInBounds_toArray, List.set_cons_zero, List.set_cons_succ, i64_w, i32_w]; rfl)
        refine two_ (i := 5) (j := 9) (Ni := some 57) (Nj := some 16) #[true, true, true, true, true, true, false, false, false, false, false, false] #[true, true, true, true, true, false, false, false, false, true, false, false] rfl rfl rfl rfl (by kernel_rfl) (by decide) (by decide) (fun K hK => ?_) (fun K hK => ?_)
        · skip
          refine goes_ Try.func18 (by kernel_rfl) rfl #[.slice A2 ys.length c2, .slice A3 ts.length c3, .int .i64 a3_1] (by rfl) rfl rfl (by (try simp only [List.map_toArray, List.map_cons, List.map_nil]); rfl) ?_
          refine (tabs_Pens.calls A2 c2 ys A3 c3 ts a3_1 ps p2 _ (Kd.C_below HYS.out HC.out.bel) HYC.out (Kd.R_reads' HO.out).2.2 (Kd.R_reads' HO.out).2.1 HPE.out).mono ?_
          rintro e w8 ⟨v9, rfl, hp, hb⟩
          refine ⟨_, rfl, ?_⟩
          obtain ⟨A4, c4, rfl⟩ := Kd.R_slice hp
          have HP := Aside0.mk (Kd.R_lower hp HC.out.bel.size)
          replace HC := Aside0.mk (HC.out.below hb)
          clear hb hp HO
          refine hK.out _ _ ⟨blk_cell HC.out.xr 0, blk_cell HC.out.xr 1⟩ (fun hHeld => ?_)
          clear hK K
          refine norm_ (a' := ?_) ?_ ?_
          rotate_left; (focus show Act.put _ (some 57) _ = _; simp only [Act.put, List.setIfInBounds_toArray, List.set_cons_zero, List.set_cons_succ, i64_w, i32_w]; rfl)
          refine pure_ (i := 6) (N := some 51) (v := ?_) (a' := ?_) #[true, true, true, true, true, true, true, false, false, false, false, false] rfl rfl (by kernel_rfl) (fun _ _ _ h => h) (Or.inl ⟨by rfl, ?_⟩) ?_ ?_
          rotate_left; (focus intro w'; go_simp; with_reducible rfl); rotate_left; (focus simp only [Act.put, List.setIfInBounds_toArray, List.set_cons_zero, List.set_cons_succ, i64_w, i32_w]; rfl)
          refine pure_ (i := 7) (N := some 58) (v := ?_) (a' := ?_) #[true, true, true, true, true, true, true, true, false, false, false, false] rfl rfl (by kernel_rfl) (fun _ _ _ h => h) (Or.inl ⟨by rfl, ?_⟩) ?_ ?_
          rotate_left; (focus intro w'; go_simp; with_reducible rfl); rotate_left; (focus simp only [Act.put, List.setIfInBounds_toArray, List.set_cons_zero, List.set_cons_succ, i64_w, i32_w]; rfl)
          refine pure_ (i := 8) (N := some 59) (v := ?_) (a' := ?_) #[true, true, true, true, true, true, true, true, true, false, false, false] rfl rfl (by kernel_rfl) (fun _ _ _ h => h) (Or.inl ⟨by rfl, ?_⟩) ?_ ?_
          rotate_left; (focus intro w'; go_simp; with_reducible rfl); rotate_left; (focus simp only [Act.put, List.setIfInBounds_toArray, List.set_cons_zero, List.set_cons_succ, i64_w, i32_w]; rfl)
          refine one_ (i := 9) (N := some 16) #[true, true, true, true, true, true, true, true, true, true, false, false] rfl rfl (by kernel_rfl) (by decide) (fun K hK => ?_)
          refine box_step ?hg (N := 16) ?hd (cs := #[.slice none 0 0]) (t := 55) ?hr ?_; (case hd => rfl); (case hg => rfl); (case hr => first | (go_simp; done) | (go_simp; rfl))
          intro gb hg w9 hbox hb
          have GB := Aside0.mk (show w.heap.size + 1 + 1 < gb from by rw [hg]; exact HC.out.lt)
          have BK := Aside0.mk hbox
          replace HC := Aside0.mk (HC.out.below hb)
          replace HP := Aside0.mk (Kd.R_below HP.out hb)
          clear hb hbox hg
          refine hK.out _ _ ⟨blk_cell HC.out.xr 0, blk_cell HC.out.xr 1⟩ (fun hHeld => ?_)
          clear hK K
          refine norm_ (a' := ?_) ?_ ?_
          rotate_left; (focus show Act.put _ (some 16) _ = _; simp only [Act.put, List.setIfInBounds_toArray, List.set_cons_zero, List.set_cons_succ, i64_w, i32_w]; rfl)
          have hs0 := blk_cell BK.out 0
          have hf0 := blk_frozen BK.out 0
          have gne0 : w.heap.size + 1 ≠ gb := by have := GB.out; omega
          refine one_ (i := 10) (N := none) #[true, true, true, true, true, true, true, true, true, true, true, false] rfl rfl (by kernel_rfl) (by decide) (fun K hK => ?_)
          refine skip_ (w1 := ?_) (by rfl) rfl ?_ ?_
          rotate_left; (focus go_simp; rfl)
          have HC2 := Aside0.mk (HC.out.setFar gb GB.out (.slice A4 ps.length c4))
          have HP2 := Aside0.mk (Kd.R_set HP.out BK.out (by decide) 0 (.slice A4 ps.length c4))
          have BK2 := Aside0.mk (blk_put BK.out 0 (.slice A4 ps.length c4) rfl)
          refine hK.out _ _ ⟨blk_cell HC2.out.xr 0, blk_cell HC2.out.xr 1⟩ (fun hHeld => ?_)
          clear hK K
          refine pure_ (i := 11) (N := some 13) (v := ?_) (a' := ?_) #[true, true, true, true, true, true, true, true, true, true, true, true] rfl rfl (by kernel_rfl) (fun _ _ _ h => h) (Or.inl ⟨by rfl, ?_⟩) ?_ ?_
          rotate_left; (focus intro w'; go_simp; with_reducible rfl); rotate_left; (focus simp only [Act.put, List.setIfInBounds_toArray, List.set_cons_zero, List.set_cons_succ, i64_w, i32_w]; rfl)
          refine done_ (by kernel_rfl) ?_
          have hfin := HCONT (gb, A4, c4, A3, c3) _ ⟨HC2.out, BK2.out, GB.out, (Kd.R_reads' HP2.out).2.2⟩
          simp only [Act.put, putAll, List.setIfInBounds_toArray, List.set_cons_zero, List.set_cons_succ] at hfin
          exact hfin
        · skip
          refine box_step ?hg (N := 16) ?hd (cs := #[.slice none 0 0]) (t := 55) ?hr ?_; (case hd => rfl); (case hg => rfl); (case hr => first | (go_simp; done) | (go_simp; rfl))
          intro gb hg w9 hbox hb
          have GB := Aside0.mk (show w.heap.size + 1 + 1 < gb from by rw [hg]; exact HC.out.lt)
          have BK := Aside0.mk hbox
          replace HC := Aside0.mk (HC.out.below hb)
          replace HO := Aside0.mk (Kd.R_below HO.out hb)
          clear hb hbox hg
          refine hK.out _ _ ⟨blk_cell HC.out.xr 0, blk_cell HC.out.xr 1⟩ (fun hHeld => ?_)
          clear hK K
          refine norm_ (a' := ?_) ?_ ?_
          rotate_left; (focus show Act.put _ (some 16) _ = _; simp only [Act.put, List.setIfInBounds_toArray, List.set_cons_zero, List.set_cons_succ, i64_w, i32_w]; rfl)
          refine one_ (i := 5) (N := some 57) #[true, true, true, true, true, true, false, false, false, true, false, false] rfl rfl (by kernel_rfl) (by decide) (fun K hK => ?_)
          refine goes_ Try.func18 (by kernel_rfl) rfl #[.slice A2 ys.length c2, .slice A3 ts.length c3, .int .i64 a3_1] (by rfl) rfl rfl (by (try simp only [List.map_toArray, List.map_cons, List.map_nil]); rfl) ?_
          refine (tabs_Pens.calls A2 c2 ys A3 c3 ts a3_1 ps p2 _ (Kd.C_below HYS.out HC.out.bel) HYC.out (Kd.R_reads' HO.out).2.2 (Kd.R_reads' HO.out).2.1 HPE.out).mono ?_
          rintro e w8 ⟨v9, rfl, hp, hb⟩
          refine ⟨_, rfl, ?_⟩
          obtain ⟨A4, c4, rfl⟩ := Kd.R_slice hp
          have HP := Aside0.mk (Kd.R_lower hp HC.out.bel.size)
          replace HC := Aside0.mk (HC.out.below hb)
          replace BK := Aside0.mk (blk_below BK.out hb)
          clear hb hp HO
          refine hK.out _ _ ⟨blk_cell HC.out.xr 0, blk_cell HC.out.xr 1⟩ (fun hHeld => ?_)
          clear hK K
          refine norm_ (a' := ?_) ?_ ?_
          rotate_left; (focus show Act.put _ (some 57) _ = _; simp only [Act.put, List.setIfInBounds_toArray, List.set_cons_zero, List.set_cons_succ, i64_w, i32_w]; rfl)
          refine pure_ (i := 6) (N := some 51) (v := ?_) (a' := ?_) #[true, true, true, true, true, true, true, false, false, true, false, false] rfl rfl (by kernel_rfl) (fun _ _ _ h => h) (Or.inl ⟨by rfl, ?_⟩) ?_ ?_
          rotate_left; (focus intro w'; go_simp; with_reducible rfl); rotate_left; (focus simp only [Act.put, List.setIfInBounds_toArray, List.set_cons_zero, List.set_cons_succ, i64_w, i32_w]; rfl)
          refine pure_ (i := 7) (N := some 58) (v := ?_) (a' := ?_) #[true, true, true, true, true, true, true, true, false, true, false, false] rfl rfl (by kernel_rfl) (fun _ _ _ h => h) (Or.inl ⟨by rfl, ?_⟩) ?_ ?_
          rotate_left; (focus intro w'; go_simp; with_reducible rfl); rotate_left; (focus simp only [Act.put, List.setIfInBounds_toArray, List.set_cons_zero, List.set_cons_succ, i64_w, i32_w]; rfl)
          refine pure_ (i := 8) (N := some 59) (v := ?_) (a' := ?_) #[true, true, true, true, true, true, true, true, true, true, false, false] rfl rfl (by kernel_rfl) (fun _ _ _ h => h) (Or.inl ⟨by rfl, ?_⟩) ?_ ?_
          rotate_left; (focus intro w'; go_simp; with_reducible rfl); rotate_left; (focus simp only [Act.put, List.setIfInBounds_toArray, List.set_cons_zero, List.set_cons_succ, i64_w, i32_w]; rfl)
          have hs0 := blk_cell BK.out 0
          have hf0 := blk_frozen BK.out 0
          have gne0 : w.heap.size + 1 ≠ gb := by have := GB.out; omega
          refine one_ (i := 10) (N := none) #[true, true, true, true, true, true, true, true, true, true, true, false] rfl rfl (by kernel_rfl) (by decide) (fun K hK => ?_)
          refine skip_ (w1 := ?_) (by rfl) rfl ?_ ?_
          rotate_left; (focus go_simp; rfl)
          have HC2 := Aside0.mk (HC.out.setFar gb GB.out (.slice A4 ps.length c4))
          have HP2 := Aside0.mk (Kd.R_set HP.out BK.out (by decide) 0 (.slice A4 ps.length c4))
          have BK2 := Aside0.mk (blk_put BK.out 0 (.slice A4 ps.length c4) rfl)
          refine hK.out _ _ ⟨blk_cell HC2.out.xr 0, blk_cell HC2.out.xr 1⟩ (fun hHeld => ?_)
          clear hK K
          refine pure_ (i := 11) (N := some 13) (v := ?_) (a' := ?_) #[true, true, true, true, true, true, true, true, true, true, true, true] rfl rfl (by kernel_rfl) (fun _ _ _ h => h) (Or.inl ⟨by rfl, ?_⟩) ?_ ?_
          rotate_left; (focus intro w'; go_simp; with_reducible rfl); rotate_left; (focus simp only [Act.put, List.setIfInBounds_toArray, List.set_cons_zero, List.set_cons_succ, i64_w, i32_w]; rfl)
          refine done_ (by kernel_rfl) ?_
          have hfin := HCONT (gb, A4, c4, A3, c3) _ ⟨HC2.out, BK2.out, GB.out, (Kd.R_reads' HP2.out).2.2⟩
          simp only [Act.put, putAll, List.setIfInBounds_toArray, List.set_cons_zero, List.set_cons_succ] at hfin
          exact hfin
      · skip
        refine box_step ?hg (N := 16) ?hd (cs := #[.slice none 0 0]) (t := 55) ?hr ?_; (case hd => rfl); (case hg => rfl); (case hr => first | (go_simp; done) | (go_simp; rfl))
        intro gb hg w9 hbox hb
        have GB := Aside0.mk (show w.heap.size + 1 + 1 < gb from by rw [hg]; exact HC.out.lt)
        have BK := Aside0.mk hbox
        replace HC := Aside0.mk (HC.out.below hb)
        clear hb hbox hg
        refine hK.out _ _ ⟨blk_cell HC.out.xr 0, blk_cell HC.out.xr 1⟩ (fun hHeld => ?_)
        clear hK K
        refine norm_ (a' := ?_) ?_ ?_
        rotate_left; (focus show Act.put _ (some 16) _ = _; simp only [Act.put, List.setIfInBounds_toArray, List.set_cons_zero, List.set_cons_succ, i64_w, i32_w]; rfl)
        refine one_ (i := 2) (N := some 54) #[true, true, true, true, true, false, false, false, false, true, false, false] rfl rfl (by kernel_rfl) (by decide) (fun K hK => ?_)
        refine goes_ Try.func19 (by kernel_rfl) rfl #[.slice A2 ys.length c2] (by rfl) rfl rfl (by (try simp only [List.map_toArray, List.map_cons, List.map_nil]); rfl) ?_
        refine (trim_Roles.calls A2 c2 ys ts _ (Kd.C_below HYS.out HC.out.bel) HYC.out HT.out).mono ?_
        rintro e w8 ⟨v8, rfl, ho, hb⟩
        refine ⟨_, rfl, ?_⟩
        obtain ⟨A3, c3, rfl⟩ := Kd.R_slice ho
        have HO := Aside0.mk ho
        replace HC := Aside0.mk (HC.out.below hb)
        replace BK := Aside0.mk (blk_below BK.out hb)
        clear hb ho
        refine hK.out _ _ ⟨blk_cell HC.out.xr 0, blk_cell HC.out.xr 1⟩ (fun hHeld => ?_)
        clear hK K
        refine norm_ (a' := ?_) ?_ ?_
        rotate_left; (focus show Act.put _ (some 54) _ = _; simp only [Act.put, List.setIfInBounds_toArray, List.set_cons_zero, List.set_cons_succ, i64_w, i32_w]; rfl)
        refine one_ (i := 5) (N := some 57) #[true, true, true, true, true, true, false, false, false, true, false, false] rfl rfl (by kernel_rfl) (by decide) (fun K hK => ?_)
        refine goes_ Try.func18 (by kernel_rfl) rfl #[.slice A2 ys.length c2, .slice A3 ts.length c3, .int .i64 a3_1] (by rfl) rfl rfl (by (try simp only [List.map_toArray, List.map_cons, List.map_nil]); rfl) ?_
        refine (tabs_Pens.calls A2 c2 ys A3 c3 ts a3_1 ps p2 _ (Kd.C_below HYS.out HC.out.bel) HYC.out (Kd.R_reads' HO.out).2.2 (Kd.R_reads' HO.out).2.1 HPE.out).mono ?_
        rintro e w8 ⟨v9, rfl, hp, hb⟩
        refine ⟨_, rfl, ?_⟩
        obtain ⟨A4, c4, rfl⟩ := Kd.R_slice hp
        have HP := Aside0.mk (Kd.R_lower hp HC.out.bel.size)
        replace HC := Aside0.mk (HC.out.below hb)
        replace BK := Aside0.mk (blk_below BK.out hb)
        clear hb hp HO
        refine hK.out _ _ ⟨blk_cell HC.out.xr 0, blk_cell HC.out.xr 1⟩ (fun hHeld => ?_)
        clear hK K
        refine norm_ (a' := ?_) ?_ ?_
        rotate_left; (focus show Act.put _ (some 57) _ = _; simp only [Act.put, List.setIfInBounds_toArray, List.set_cons_zero, List.set_cons_succ, i64_w, i32_w]; rfl)
        refine pure_ (i := 6) (N := some 51) (v := ?_) (a' := ?_) #[true, true, true, true, true, true, true, false, false, true, false, false] rfl rfl (by kernel_rfl) (fun _ _ _ h => h) (Or.inl ⟨by rfl, ?_⟩) ?_ ?_
        rotate_left; (focus intro w'; go_simp; with_reducible rfl); rotate_left; (focus simp only [Act.put, List.setIfInBounds_toArray, List.set_cons_zero, List.set_cons_succ, i64_w, i32_w]; rfl)
        refine pure_ (i := 7) (N := some 58) (v := ?_) (a' := ?_) #[true, true, true, true, true, true, true, true, false, true, false, false] rfl rfl (by kernel_rfl) (fun _ _ _ h => h) (Or.inl ⟨by rfl, ?_⟩) ?_ ?_
        rotate_left; (focus intro w'; go_simp; with_reducible rfl); rotate_left; (focus simp only [Act.put, List.setIfInBounds_toArray, List.set_cons_zero, List.set_cons_succ, i64_w, i32_w]; rfl)
        refine pure_ (i := 8) (N := some 59) (v := ?_) (a' := ?_) #[true, true, true, true, true, true, true, true, true, true, false, false] rfl rfl (by kernel_rfl) (fun _ _ _ h => h) (Or.inl ⟨by rfl, ?_⟩) ?_ ?_
        rotate_left; (focus intro w'; go_simp; with_reducible rfl); rotate_left; (focus simp only [Act.put, List.setIfInBounds_toArray, List.set_cons_zero, List.set_cons_succ, i64_w, i32_w]; rfl)
        have hs0 := blk_cell BK.out 0
        have hf0 := blk_frozen BK.out 0
        have gne0 : w.heap.size + 1 ≠ gb := by have := GB.out; omega
        refine one_ (i := 10) (N := none) #[true, true, true, true, true, true, true, true, true, true, true, false] rfl rfl (by kernel_rfl) (by decide) (fun K hK => ?_)
        refine skip_ (w1 := ?_) (by rfl) rfl ?_ ?_
        rotate_left; (focus go_simp; rfl)
        have HC2 := Aside0.mk (HC.out.setFar gb GB.out (.slice A4 ps.length c4))
        have HP2 := Aside0.mk (Kd.R_set HP.out BK.out (by decide) 0 (.slice A4 ps.length c4))
        have BK2 := Aside0.mk (blk_put BK.out 0 (.slice A4 ps.length c4) rfl)
        refine hK.out _ _ ⟨blk_cell HC2.out.xr 0, blk_cell HC2.out.xr 1⟩ (fun hHeld => ?_)
        clear hK K
        refine pure_ (i := 11) (N := some 13) (v := ?_) (a' := ?_) #[true, true, true, true, true, true, true, true, true, true, true, true] rfl rfl (by kernel_rfl) (fun _ _ _ h => h) (Or.inl ⟨by rfl, ?_⟩) ?_ ?_
        rotate_left; (focus intro w'; go_simp; with_reducible rfl); rotate_left; (focus simp only [Act.put, List.setIfInBounds_toArray, List.set_cons_zero, List.set_cons_succ, i64_w, i32_w]; rfl)
        refine done_ (by kernel_rfl) ?_
        have hfin := HCONT (gb, A4, c4, A3, c3) _ ⟨HC2.out, BK2.out, GB.out, (Kd.R_reads' HP2.out).2.2⟩
        simp only [Act.put, putAll, List.setIfInBounds_toArray, List.set_cons_zero, List.set_cons_succ] at hfin
        exact hfin
    case hcont =>
      rintro ⟨gb, A4, c4, A3, c3⟩ W7 ⟨hC7, hB7, hgb, hK7⟩
      have HC := Aside0.mk hC7
      have HB7 := Aside0.mk hB7
      have HK7 := Aside0.mk hK7
      clear hC7 hB7 hK7
      simp only [Act.put, putAll, List.setIfInBounds_toArray, List.set_cons_zero, List.set_cons_succ]
      simp only [Exit.then]
      have h := H.out
      clear H
      by_cases hp : p2 = 0
      · rw [if_pos hp] at h
        have d5 : (p2 != 0) = false := bne_eq_false_iff_eq.2 hp
        by_cases hlt : ys.length < ps.length
        · rw [if_pos hlt] at h
          obtain ⟨hr1, hr2, hr3, hr4⟩ : cutTo ps l1 a2_0 a2_1 n1 a3_0 a4 = r1 ∧ rd ps (cutTo ps l1 a2_0 a2_1 n1 a3_0 a4 - a2_0) = r2 ∧ decide (n1 > a3_0) = r3 ∧ 0 = r4 := by simpa using h
          have hti := cutTo_in ps l1 a2_0 a2_1 n1 a3_0 a4 HIN.out.2.2.1
          rw [hr1] at hr2 hti
          have hx0 := blk_cell HC.out.xl 0
          have hx1 := blk_cell HC.out.xl 1
          have hy0 := blk_cell HC.out.xr 0
          have HR1 := Aside0.mk hr1
          have HR2 := Aside0.mk hr2
          have HLT := Aside0.mk (show (ys.length : Int) = a2_1 - a2_0 ∧ ys.length < ps.length from ⟨by have := HYL.out; have := HIN.out; omega, hlt⟩)
          have HTI := Aside0.mk hti
          clear h hr1 hr2 hti hlt hp
          subst hr4
          subst hr3
          by_cases hg : n1 > a3_0
          · have d6 : decide (n1 > a3_0) = true := decide_eq_true hg
            have d7 : decide (a3_0 < n1) = true := d6
            have e10 : firstL (cutB ps a2_0 a4 a3_0) a2_0 (backL l1 a2_0 a2_1 (l1.length + 2) a2_1) = r1 := (if_pos hg : cutTo ps l1 a2_0 a2_1 n1 a3_0 a4 = _).symm.trans HR1.out
            have HR3 := Aside0.mk e10
            clear e10 hg HR1
            go_wp2_with fail
            replace HC := Aside0.mk (show CutAt a2_0 a2_1 a2_2 a3_0 a3_1 a4 w W7.drew from HC.out.below (below_drew1 (Below.refl _ _)))
            replace HB7 := Aside0.mk (show Boxed W7.drew gb 55 (.slice A4 ps.length c4) from blk_below HB7.out (below_drew1 (Below.refl _ _)))
            replace HK7 := Aside0.mk (show Kd.C (Kd.int .i64) W7.drew A4 ps.length ps from Kd.C_below HK7.out (below_drew1 (Below.refl _ _)))
            refine start_ (n := 8) (S := fun w' => w'.cell? ⟨w.heap.size, 0, none⟩ = some (.int .i64 a2_0) ∧ w'.cell? ⟨w.heap.size, 1, none⟩ = some (.int .i64 a2_1) ∧ w'.cell? ⟨w.heap.size, 2, none⟩ = some (.bool a2_2)) (ds := []) #[false, false, false, false, false, false, false, false] (by kernel_rfl) rfl rfl ⟨blk_cell HC.out.xl 0, blk_cell HC.out.xl 1, blk_cell HC.out.xl 2⟩ (fun hHeld => ?_)
            generalize W7.drew = W8 at HC HB7 HK7 hHeld ⊢
            clear hx0 hx1 hy0
            refine pure_ (i := 0) (N := some 69) (v := ?_) (a' := ?_) #[true, false, false, false, false, false, false, false] rfl rfl (by kernel_rfl) (fun _ _ _ h => h) (Or.inl ⟨by rfl, ?_⟩) ?_ ?_
            rotate_left; (focus intro w'; go_simp; with_reducible rfl); rotate_left; (focus simp only [Act.put, List.setIfInBounds_toArray, List.set_cons_zero, List.set_cons_succ, i64_w, i32_w]; rfl)
            refine take_ (i := 1) (N := some 70) (v := ?_) (a' := ?_) #[true, true, false, false, false, false, false, false] rfl rfl (by kernel_rfl) (fun _ _ _ h => h) (Or.inl ⟨by rfl, ?_⟩) hHeld ?_ ?_
            rotate_left; (focus rintro w' ⟨s0, s1, s2⟩; go_simp; with_reducible rfl); rotate_left; (focus simp only [Act.put, List.setIfInBounds_toArray, List.set_cons_zero, List.set_cons_succ, i64_w, i32_w]; rfl)
            refine pure_ (i := 3) (N := some 72) (v := ?_) (a' := ?_) #[true, true, false, true, false, false, false, false] rfl rfl (by kernel_rfl) (fun _ _ _ h => h) (Or.inl ⟨by rfl, ?_⟩) ?_ ?_
            rotate_left; (focus intro w'; go_simp; with_reducible rfl); rotate_left; (focus simp only [Act.put, List.setIfInBounds_toArray, List.set_cons_zero, List.set_cons_succ, i64_w, i32_w]; rfl)
            refine take_ (i := 4) (N := some 73) (v := ?_) (a' := ?_) #[true, true, false, true, true, false, false, false] rfl rfl (by kernel_rfl) (fun _ _ _ h => h) (Or.inl ⟨by rfl, ?_⟩) hHeld ?_ ?_
            rotate_left; (focus rintro w' ⟨s0, s1, s2⟩; go_simp; with_reducible rfl); rotate_left; (focus simp only [Act.put, List.setIfInBounds_toArray, List.set_cons_zero, List.set_cons_succ, i64_w, i32_w]; rfl)
            refine pure_ (i := 5) (N := some 74) (v := ?_) (a' := ?_) #[true, true, false, true, true, true, false, false] rfl rfl (by kernel_rfl) (fun _ _ _ h => h) (Or.inl ⟨by rfl, ?_⟩) ?_ ?_
            rotate_left; (focus intro w'; go_simp; with_reducible rfl); rotate_left; (focus simp only [Act.put, List.setIfInBounds_toArray, List.set_cons_zero, List.set_cons_succ, i64_w, i32_w]; rfl)
            refine one_ (i := 2) (N := some 71) #[true, true, true, true, true, true, false, false] rfl rfl (by kernel_rfl) (by decide) (fun K hK => ?_)
            refine goes_ Try.func25 (by kernel_rfl) rfl #[.slice A1 l1.length c1, .agg #[.int .i64 a2_0, .int .i64 a2_1, .bool a2_2]] (by rfl) rfl rfl (by (try simp only [List.map_toArray, List.map_cons, List.map_nil]); rfl) ?_
            refine (back_any A1 l1.length c1 a2_0 a2_1 a2_2 W8).mono ?_
            rintro e_ W9 ⟨rfl, hW9⟩
            refine ⟨_, rfl, ?_⟩
            have HI := Aside0.mk (made_back A1 c1 l1 a2_0 a2_1 a2_2 W8 W9 (Kd.C_below hr1 HC.out.bel) ⟨HIN.out.2.1, HIN.out.2.2.1, by have := HIN.out; omega⟩ hW9)
            have hb9 : Below W8.heap.size W8 W9 := by rw [← hW9]; exact below_alloc (below_alloc (Below.refl _ _) _) _
            have HZ := Aside0.mk (show W9.heap.size = W8.heap.size + 2 by rw [← hW9]; simp)
            replace HC := Aside0.mk (HC.out.below hb9)
            replace HB7 := Aside0.mk (show Boxed W9 gb 55 (.slice A4 ps.length c4) from blk_below HB7.out hb9)
            replace HK7 := Aside0.mk (Kd.C_below HK7.out hb9)
            clear hW9 hb9
            refine hK.out _ _ ⟨blk_cell HC.out.xl 0, blk_cell HC.out.xl 1, blk_cell HC.out.xl 2⟩ (fun hHeld => ?_)
            clear hK K
            refine norm_ (a' := ?_) ?_ ?_
            rotate_left; (focus show Act.put _ (some 71) _ = _; simp only [Act.put, List.setIfInBounds_toArray, List.set_cons_zero, List.set_cons_succ, i64_w, i32_w]; rfl)
            refine one_ (i := 6) (N := some 75) #[true, true, true, true, true, true, true, false] rfl rfl (by kernel_rfl) (by decide) (fun K hK => ?_)
            refine goes_ Try.func24 (by kernel_rfl) rfl #[.func (.func 43) #[] #[.pointer (some ⟨W8.heap.size + 1, 0, none⟩), .pointer (some ⟨W8.heap.size, 0, none⟩)], .int .i64 a2_0, .func (.func 26) #[] #[.pointer (some ⟨gb, 0, none⟩), .pointer (some ⟨w.heap.size, 0, none⟩), .pointer (some ⟨w.heap.size + 1 + 1, 0, none⟩), .pointer (some ⟨w.heap.size + 1, 0, none⟩)]] (by rfl) rfl rfl (by (try simp only [List.map_toArray, List.map_cons, List.map_nil]); rfl) ?_
            have HF : ∀ (q : Int) (W : World), q ∈ backL l1 a2_0 a2_1 (l1.length + 2) a2_1 → Below W9.heap.size W9 W → Calls Try.prog 26 (#[.int .i64 q] ++ #[.pointer (some ⟨gb, 0, none⟩), .pointer (some ⟨w.heap.size, 0, none⟩), .pointer (some ⟨w.heap.size + 1 + 1, 0, none⟩), .pointer (some ⟨w.heap.size + 1, 0, none⟩)]) W fun e W' => e = .returned (.bool (cutB ps a2_0 a4 a3_0 q)) ∧ Below W.heap.size W W' := fun q W hq hb => by
              have hqi := backL_in l1 a2_0 a2_1 _ a2_1 (Int.le_refl _) q hq
              exact cut1_any a2_0 a2_1 a2_2 a3_0 a3_1 a4 w W (HC.out.below hb) gb A4 c4 ps q (blk_below HB7.out hb) (Kd.C_below HK7.out hb) (by omega) (by have := HLT.out; omega)
            refine (first_any 43 _ W8.heap.size 26 _ [W8.heap.size, W8.heap.size + 1] (cutB ps a2_0 a4 a3_0) (backL l1 a2_0 a2_1 (l1.length + 2) a2_1) a2_0 r1 W9 (enters_of Try.func43 (by kernel_rfl) rfl) (enters_of Try.func26 (by kernel_rfl) rfl) HI.out (by rw [HZ.out]; omega) (fun B hB => by simp at hB; rw [HZ.out]; omega) rfl HF HR3.out).mono ?_
            rintro e_ W10 ⟨rfl, hb10⟩
            refine ⟨_, rfl, ?_⟩
            clear HF
            replace HC := Aside0.mk (HC.out.below hb10)
            replace HB7 := Aside0.mk (show Boxed W10 gb 55 (.slice A4 ps.length c4) from blk_below HB7.out hb10)
            replace HK7 := Aside0.mk (Kd.C_below HK7.out hb10)
            clear hb10 HI HZ HR3
            refine hK.out _ _ ⟨blk_cell HC.out.xl 0, blk_cell HC.out.xl 1, blk_cell HC.out.xl 2⟩ (fun hHeld => ?_)
            clear hK K
            refine norm_ (a' := ?_) ?_ ?_
            rotate_left; (focus show Act.put _ (some 75) _ = _; simp only [Act.put, List.setIfInBounds_toArray, List.set_cons_zero, List.set_cons_succ, i64_w, i32_w]; rfl)
            refine pure_ (i := 7) (N := some 10) (v := ?_) (a' := ?_) #[true, true, true, true, true, true, true, true] rfl rfl (by kernel_rfl) (fun _ _ _ h => h) (Or.inl ⟨by rfl, ?_⟩) ?_ ?_
            rotate_left; (focus intro w'; go_simp; with_reducible rfl); rotate_left; (focus simp only [Act.put, List.setIfInBounds_toArray, List.set_cons_zero, List.set_cons_succ, i64_w, i32_w]; rfl)
            refine done_ (by kernel_rfl) ?_
            simp only [Exit.then]
            have hx0 := blk_cell HC.out.xl 0
            have hy0 := blk_cell HC.out.xr 0
            have q0 : 0 ≤ r1 - a2_0 := by have := HTI.out; omega
            have q1 : r1 - a2_0 < (ps.length : Int) := by have := HLT.out; have := HTI.out; omega
            obtain ⟨ad, rfl, hx⟩ := Kd.at_int HK7.out (r1 - a2_0) q0 q1
            have e1 : IntKind.i64.wrap (r1 - a2_0) = r1 - a2_0 := IntWalk.i64_in _ (by have := HK7.out.2.1; omega)
            have bx := Boxed.cell HB7.out
            rw [HR2.out] at hx
            clear hHeld
            go_wp2_with fail
            go_quiet (fail)
            simp only [Exit.then]
            go_wp2_with fail
            refine bodyPost_ret (results_list (rs := [.tmp 10, .tmp 11, .tmp 12, .tmp 13]) rfl (by simp) (.tmp (.tmp (.tmp (.tmp .nil))))) rfl ?_
            exact ⟨by rw [d6]; rfl, pw_below_drewN HC.out.bel _⟩
          · have d6 : decide (n1 > a3_0) = false := decide_eq_false hg
            have d7 : decide (a3_0 < n1) = false := d6
            have e10 : cutTo ps l1 a2_0 a2_1 n1 a3_0 a4 = a2_1 := if_neg hg
            have e11 : a2_1 = r1 := e10.symm.trans HR1.out
            subst e11
            clear e10 hg HR1
            have q0 : 0 ≤ a2_1 - a2_0 := by have := HTI.out; omega
            have q1 : a2_1 - a2_0 < (ps.length : Int) := by have := HLT.out; omega
            obtain ⟨ad, rfl, hx⟩ := Kd.at_int HK7.out (a2_1 - a2_0) q0 q1
            have e1 : IntKind.i64.wrap (a2_1 - a2_0) = a2_1 - a2_0 := IntWalk.i64_in _ (by have := HTI.out; have := HLT.out; have := HK7.out.2.1; omega)
            have bx := Boxed.cell HB7.out
            rw [HR2.out] at hx
            go_wp2_with fail
            go_quiet (fail)
            simp only [Exit.then]
            go_wp2_with fail
            refine bodyPost_ret (results_list (rs := [.tmp 10, .tmp 11, .tmp 12, .tmp 13]) rfl (by simp) (.tmp (.tmp (.tmp (.tmp .nil))))) rfl ?_
            exact ⟨by rw [d6]; rfl, pw_below_drewN HC.out.bel _⟩
        · rw [if_neg hlt] at h
          cases h
      · rw [if_neg hp] at h
        obtain ⟨rfl, rfl, rfl, rfl⟩ := by simpa using h
        have d5 : (p2 != 0) = true := bne_iff_ne.2 hp
        clear hp h
        go_wp2_with fail
        refine bodyPost_ret (results_list (rs := [.tmp 10, .tmp 11, .tmp 12, .tmp 13]) rfl (by simp) (.tmp (.tmp (.tmp (.tmp .nil))))) rfl ?_
        exact ⟨rfl, HC.out.bel⟩
  · rw [if_neg hn] at h
    obtain ⟨rfl, rfl, rfl, rfl⟩ := by simpa using h
    have d4 : (n2 != 0) = true := bne_iff_ne.2 hn
    clear hn
    go_wp2_with fail
    refine bodyPost_ret (results_list (rs := [.tmp 10, .tmp 11, .tmp 12, .tmp 13]) rfl (by simp) (.tmp (.tmp (.tmp (.tmp .nil))))) rfl ?_
    exact ⟨rfl, HC.out.bel⟩

theorem ellipsis_Cut.calls (A0 : Option Addr) (c0 : Nat) (l0 : List (S53)) (A1 : Option Addr) (c1 : Nat) (l1 : List Bool) (a2_0 a2_1 : Int) (a2_2 : Bool) (a3_0 a3_1 a4 r1 r2 : Int) (r3 : Bool) (r4 : Int) (w : World) (hr0 : Kd.C k53 w A0 l0.length l0) (hc0 : l0.length ≤ c0) (hr1 : Kd.C Kd.bool w A1 l1.length l1) (hc1 : l1.length ≤ c1) (h : ellipsis_Cut.f l0 l1 a2_0 a2_1 a2_2 a3_0 a3_1 a4 = some (r1, r2, r3, r4)) :
    Calls Try.prog 10 #[.slice A0 l0.length c0, .slice A1 l1.length c1, .agg #[.int .i64 a2_0, .int .i64 a2_1, .bool a2_2], .agg #[.int .i64 a3_0, .int .i64 a3_1], .int .i64 a4] w fun e w' => e = .returned (.tuple #[.int .i64 r1, .int .i64 r2, .bool r3, .int .i64 r4]) ∧ Below w.heap.size w w' := by
  by_cases hok : cutOk l0 l1 a2_0 a2_1 a3_0 a4
  · exact cut_good A0 c0 l0 A1 c1 l1 a2_0 a2_1 a2_2 a3_0 a3_1 a4 r1 r2 r3 r4 w hr0 hc0 hr1 hc1 hok h
  · unfold ellipsis_Cut.f at h
    rw [if_neg hok] at h
    obtain ⟨rfl, rfl, rfl, rfl⟩ := by simpa using h
    exact cut_bad A0 c0 l0 A1 c1 l1 a2_0 a2_1 a2_2 a3_0 a3_1 a4 w hr0 hc0 hr1 hc1 hok
end

end Go.Proofs.Ytkaiibipcnlaiaa.HEllW
