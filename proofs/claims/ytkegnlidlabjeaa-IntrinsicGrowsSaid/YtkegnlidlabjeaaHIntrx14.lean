-- Written by this claim's own program over the kit's print.
import Derived.Test.YtkegnlidlabjeaaHIntrx0
import Derived.Test.YtkegnlidlabjeaaHIntrx9
import Derived.Test.YtkegnlidlabjeaaHIntrx11
import Derived.Test.YtkegnlidlabjeaaHand3
import Derived.Test.YtkegnlidlabjeaaHand4
import Derived.StillTailTactics
import Derived.Laws.Externs
import Derived.BigFrameIn
import Derived.Lib.Hide
import Derived.Test.YtkegnlidlabjeaaHand8
import Derived.Sort.LoopGhostIn
import Derived.BigQuiet
namespace Go.Proofs.Ytkegnlidlabjeaa.HIntr
open Go.RowKit Go.Proofs.YtkegnlidlabjeaaW.PrintWords Go.Proofs.YtkegnlidlabjeaaW.PrintLast Go.Proofs.YtkegnlidlabjeaaW.PrintMore
attribute [local go_sem] max2_int min2_int max_two min_two max_three min_three max_four min_four   -- for this text's walks alone
set_option linter.unusedVariables false
set_option linter.unusedSimpArgs false

-- BY HAND: function 25
section
open Go.Proofs.Ytkegnlidlabjeaa.Hand
attribute [local go_sem] Oper.semAt_some
/-- What the widest of some parts is told to be: that of one, and of each other; or the first error. -/
def greatO (f : S50 → Option (Int × Int)) : List S50 → Int → Option (Int × Int)
  | [], n => some (n, 0)
  | x :: xs, n => (f x).bind fun r => if r.2 = 0 then greatO f xs (mx n r.1) else some r
def subL (l : List S35) (x : S50) : List S35 := (l.take x.f1.toNat).drop x.f0.toNat
def fitX (l : List S35) (x : S50) : Option (Int × Int) := trim_Fits.f (subL l x) 0
set_option maxRecDepth 100000 in
set_option maxHeartbeats 4000000 in
theorem fit_any (Bl : Nat) (A0 : Option Addr) (c0 : Nat) (l0 : List S35) (x : S50) (r1 r2 : Int) (w : World) (hl : Boxed w Bl 22 (.slice A0 l0.length c0)) (h0 : Kd.C k35 w A0 l0.length l0) (hc0 : l0.length ≤ c0) (hx0 : 0 ≤ x.f0) (hx1 : x.f0 ≤ x.f1) (hx2 : x.f1 ≤ (l0.length : Int)) (h : fitX l0 x = some (r1, r2)) :
    Calls Try.prog 43 #[.agg #[.int .i64 x.f0, .int .i64 x.f1], .pointer (some ⟨Bl, 0, none⟩)] w fun e w' => e = .returned (.tuple #[.int .i64 r1, .int .i64 r2]) ∧ Below w.heap.size w w' := by
  unfold fitX at h
  have q0 := (hl.alloc (.cells #[.int .i64 x.f0, .int .i64 x.f1] 50)).cell
  have hB : Below w.heap.size w (w.alloc (.cells #[.int .i64 x.f0, .int .i64 x.f1] 50)) := (Below.refl _ w).alloc (Nat.le_refl _) _
  have hbk : (w.alloc (.cells #[.int .i64 x.f0, .int .i64 x.f1] 50)).heap[w.heap.size]? = some (.cells #[.int .i64 x.f0, .int .i64 x.f1] 50) := World.alloc_heap_new _ _
  have q1 : (w.alloc (.cells #[.int .i64 x.f0, .int .i64 x.f1] 50)).cell? ⟨w.heap.size, 0, none⟩ = some (.int .i64 x.f0) := (blk_cell hbk 0).trans rfl
  have q2 : (w.alloc (.cells #[.int .i64 x.f0, .int .i64 x.f1] 50)).cell? ⟨w.heap.size, 1, none⟩ = some (.int .i64 x.f1) := (blk_cell hbk 1).trans rfl
  obtain ⟨i0, hi0, _, hsz, _⟩ := info_parts info35
  have hcut := cut_mid (P := Try.prog) 22 35 .i64 .i64 Try.underlying22 hi0 6 hsz A0 l0.length c0 x.f0 x.f1 hx0 hx1 hx2 hc0
  have hr := Kd.C_mid (lo := x.f0.toNat) (hi := x.f1.toNat) (c := c0) (Kd.C_below h0 hB) (by omega) (by omega) hc0
  have hn : (subL l0 x).length = x.f1.toNat - x.f0.toNat := by unfold subL; rw [List.length_drop, List.length_take]; omega
  obtain ⟨A1, hA1⟩ : ∃ A1, A1 = (if c0 = x.f0.toNat then A0 else (A0 : Option Addr).map (·.add (x.f0.toNat * 6))) := ⟨_, rfl⟩
  obtain ⟨c1, hc1⟩ : ∃ c1, c1 = c0 - x.f0.toNat := ⟨_, rfl⟩
  replace hr : Kd.C k35 _ A1 (subL l0 x).length (subL l0 x) := (by rw [hA1]; exact hr)
  rw [← hn, ← hA1, ← hc1] at hcut
  have hl1 : (subL l0 x).length ≤ c1 := by rw [hn, hc1]; omega
  generalize hy : subL l0 x = y at hr hl1 hcut h
  have H := Aside0.mk h
  have HR := Aside0.mk hr
  have HL := Aside0.mk hl1
  have HB := Aside0.mk hB
  clear h hr hl1 hn hA1 hc1 hl h0 hB hbk hy hi0 hsz
  go_enter Try.func43, Try.ntmps43
  go_wp2_with (first | (go_at_call 12; refine Aside0.out ?_))
  refine Aside0.mk ?_
  refine (trim_Fits.calls A1 c1 y 0 r1 r2 _ HR.out HL.out H.out).mono ?_
  rintro e w5 ⟨rfl, hb⟩
  go_wp2_with fail
  go_ret2
  exact ⟨rfl, below_step HB.out hb⟩
/-- A function value that tells how wide a part is, in whatever world keeps what it has captured. -/
def WideFn (gi n₀ : Nat) (cap : Array Value) (Bs : List Nat) (f : S50 → Option (Int × Int)) (xs : List S50) (w : World) : Prop :=
  ∀ (x : S50) (r1 r2 : Int) (W : World), x ∈ xs → f x = some (r1, r2) → KeepI n₀ Bs w W → Calls Try.prog gi (#[.agg #[.int .i64 x.f0, .int .i64 x.f1]] ++ cap) W fun e W' => e = .returned (.tuple #[.int .i64 r1, .int .i64 r2]) ∧ Below W.heap.size W W'
theorem results_ii_ {P : Program} {fn : Func} {p q : Tmp} {ty ty' : TypeId} {k k' : IntKind} (h : fn.results = #[.cell p ty, .cell q ty']) (hu : P.underlying ty = some (.int k)) (hu' : P.underlying ty' = some (.int k'))
    (tmps : Array Value) (w : World) (g g' : Nat) (v v' : Value) (hp : tmps.getD p undef = .pointer (some ⟨g, 0, none⟩)) (hq : tmps.getD q undef = .pointer (some ⟨g', 0, none⟩)) (hv : w.cell? ⟨g, 0, none⟩ = some v) (hv' : w.cell? ⟨g', 0, none⟩ = some v') :
    (results fn tmps).run P w = .ok (.tuple #[v, v']) w := by
  have h1 : tmps[p]?.getD undef = .pointer (some ⟨g, 0, none⟩) := by simpa using hp
  have h2 : tmps[q]?.getD undef = .pointer (some ⟨g', 0, none⟩) := by simpa using hq
  have e1 := run_underlying hu
  have e2 := run_underlying hu'
  simp [results, h, h1, h2, asAddr, loadVar, isAgg, e1, e2, go_sem, hv, hv']
theorem leave_ii_ {P : Program} {fn : Func} {w : World} {F : Fence} {n : Nat} {tmps : Array Value} {R : Ending → World → Prop} {p q : Tmp} {ty ty' : TypeId} {k k' : IntKind} (h : fn.results = #[.cell p ty, .cell q ty']) (hu : P.underlying ty = some (.int k)) (hu' : P.underlying ty' = some (.int k'))
    (g g' : Nat) (v v' : Value) (hp : tmps.getD p undef = .pointer (some ⟨g, 0, none⟩)) (hq : tmps.getD q undef = .pointer (some ⟨g', 0, none⟩)) (hv : w.cell? ⟨g, 0, none⟩ = some v) (hv' : w.cell? ⟨g', 0, none⟩ = some v')
    (hR : R (.returned (.tuple #[v, v'])) w) : LeavesInM F n P fn tmps R [] .returning w := ⟨_, results_ii_ h hu hu' tmps w g g' v v' hp hq hv hv', hR⟩
/-- What lies while the widest is sought. -/
structure GreatAt (w : World) (gi : Nat) (cap : Array Value) (m a b : Int) (W : World) : Prop where
  xn : Boxed W w.heap.size 2 (.int .i64 m)
  xf : Boxed W (w.heap.size + 1) 63 (.func (.func gi) #[] cap)
  xw : Boxed W (w.heap.size + 2) 2 (.int .i64 a)
  xe : Boxed W (w.heap.size + 3) 24 (.int .i64 b)
  bel : Below w.heap.size w W
theorem GreatAt.bide {w : World} {gi : Nat} {cap : Array Value} {m a b : Int} {B : Nat} (hB : w.heap.size ≤ B) : Bide B (fun W => GreatAt w gi cap m a b W) := fun X Y row h hg hr =>
  ⟨Bide.boxed _ _ _ X Y row h.xn hg hr, Bide.boxed _ _ _ X Y row h.xf hg hr, Bide.boxed _ _ _ X Y row h.xw hg hr, Bide.boxed _ _ _ X Y row h.xe hg hr, Bide.below (Nat.le_refl _) hB X Y row h.bel hg hr⟩
theorem GreatAt.below {w : World} {gi : Nat} {cap : Array Value} {m a b : Int} {W W' : World} (h : GreatAt w gi cap m a b W) (hb : Below W.heap.size W W') : GreatAt w gi cap m a b W' :=
  ⟨boxed_below h.xn hb, boxed_below h.xf hb, boxed_below h.xw hb, boxed_below h.xe hb, below_step h.bel hb⟩
theorem GreatAt.setN {w : World} {gi : Nat} {cap : Array Value} {m a b : Int} {W : World} (h : GreatAt w gi cap m a b W) (m' : Int) : GreatAt w gi cap m' a b (W.setCell ⟨w.heap.size, 0, none⟩ (.int .i64 m')) :=
  ⟨h.xn.set _, blk_far (p := ⟨w.heap.size, 0, none⟩) h.xf (by simp) _, blk_far (p := ⟨w.heap.size, 0, none⟩) h.xw (by simp) _, blk_far (p := ⟨w.heap.size, 0, none⟩) h.xe (by simp) _, h.bel.setCell (p := ⟨w.heap.size, 0, none⟩) (Nat.le_refl _) _⟩
theorem GreatAt.setW {w : World} {gi : Nat} {cap : Array Value} {m a b : Int} {W : World} (h : GreatAt w gi cap m a b W) (a' : Int) : GreatAt w gi cap m a' b (W.setCell ⟨w.heap.size + 2, 0, none⟩ (.int .i64 a')) :=
  ⟨blk_far (p := ⟨w.heap.size + 2, 0, none⟩) h.xn (by simp) _, blk_far (p := ⟨w.heap.size + 2, 0, none⟩) h.xf (by simp) _, h.xw.set _, blk_far (p := ⟨w.heap.size + 2, 0, none⟩) h.xe (by simp) _, h.bel.setCell (p := ⟨w.heap.size + 2, 0, none⟩) (by simp) _⟩
theorem GreatAt.setE {w : World} {gi : Nat} {cap : Array Value} {m a b : Int} {W : World} (h : GreatAt w gi cap m a b W) (b' : Int) : GreatAt w gi cap m a b' (W.setCell ⟨w.heap.size + 3, 0, none⟩ (.int .i64 b')) :=
  ⟨blk_far (p := ⟨w.heap.size + 3, 0, none⟩) h.xn (by simp) _, blk_far (p := ⟨w.heap.size + 3, 0, none⟩) h.xf (by simp) _, blk_far (p := ⟨w.heap.size + 3, 0, none⟩) h.xw (by simp) _, h.xe.set _, h.bel.setCell (p := ⟨w.heap.size + 3, 0, none⟩) (by simp) _⟩
set_option maxRecDepth 100000 in
set_option maxHeartbeats 4000000 in
theorem great_any (gf : Nat) (lb : Array Value) (n₀ gi : Nat) (cap : Array Value) (Bs : List Nat) (f : S50 → Option (Int × Int)) (xs : List S50) (n r1 r2 : Int) (w : World) (eg : ∀ args w, (callFunc gf args).run Try.prog w = .ok (.enter gf args) w) (heg : ∀ args w, (callFunc gi args).run Try.prog w = .ok (.enter gi args) w)
    (hit : ∀ W, Below w.heap.size w W → IterS Try.prog gf lb (fun x : S50 => #[.agg #[.int .i64 x.f0, .int .i64 x.f1]]) n₀ Bs xs W) (hn : n₀ ≤ w.heap.size) (hBs : ∀ B ∈ Bs, B < w.heap.size) (hcap : (Value.func (.func gi) #[] cap).oneCell' = true)
    (hf : WideFn gi w.heap.size cap [] f xs w) (h : greatO f xs n = some (r1, r2)) :
    Calls Try.prog 44 #[.func (.func gf) #[] lb, .int .i64 n, .func (.func gi) #[] cap] w fun e w' => e = .returned (.tuple #[.int .i64 r1, .int .i64 r2]) ∧ Below w.heap.size w w' := by
  have b1 := ((Boxed.new w 2 (.int .i64 n)).alloc (.cells #[.func (.func gi) #[] cap] 63)).alloc (.cells #[.int .i64 0] 2) |>.alloc (.cells #[.int .i64 0] 24)
  have b2 := ((boxed_new (w.alloc (.cells #[.int .i64 n] 2)) (w.heap.size + 1) 63 (.func (.func gi) #[] cap) (by simp)).alloc (.cells #[.int .i64 0] 2)).alloc (.cells #[.int .i64 0] 24)
  have b3 := (boxed_new ((w.alloc (.cells #[.int .i64 n] 2)).alloc (.cells #[.func (.func gi) #[] cap] 63)) (w.heap.size + 2) 2 (.int .i64 0) (by simp)).alloc (.cells #[.int .i64 0] 24)
  have b4 := boxed_new (((w.alloc (.cells #[.int .i64 n] 2)).alloc (.cells #[.func (.func gi) #[] cap] 63)).alloc (.cells #[.int .i64 0] 2)) (w.heap.size + 3) 24 (.int .i64 0) (by simp)
  have hb4 : Below w.heap.size w ((((w.alloc (.cells #[.int .i64 n] 2)).alloc (.cells #[.func (.func gi) #[] cap] 63)).alloc (.cells #[.int .i64 0] 2)).alloc (.cells #[.int .i64 0] 24)) := below_alloc (below_alloc (below_alloc (below_alloc (Below.refl _ _) _) _) _) _
  have HI := Aside0.mk (hit _ hb4)
  have HA := Aside0.mk (show GreatAt w gi cap n 0 0 ((((w.alloc (.cells #[.int .i64 n] 2)).alloc (.cells #[.func (.func gi) #[] cap] 63)).alloc (.cells #[.int .i64 0] 2)).alloc (.cells #[.int .i64 0] 24)) from ⟨b1, b2, b3, b4, hb4⟩)
  have H := Aside0.mk h
  have HF := Aside0.mk hf
  clear b1 b2 b3 b4 hb4 hit h hf
  refine callsIn_wide.1 (callsIn_of_wp_marks (n := 9) Try.func44 rfl trivial (wpIn_wide.2 ?_) rfl)
  simp only [Try.ntmps44, List.size_toArray, List.length_cons, List.length_nil, Nat.reduceAdd, Nat.reduceSub, Array.replicate_succ, Array.replicate_zero, List.push_toArray, List.append_toArray, List.nil_append, List.cons_append]
  go_wp2_with fail
  refine wp_rangeA (gf := gf) (lb := lb) (n₀ := n₀) (Bs := Bs) (Ms := []) rfl eg (IterS.toM HI.out) (fun B hB => by cases hB) (by simp; omega) (fun B hB => by have := hBs B hB; simp; omega) (fun _ => rfl)
    (fun pre W => ∃ m rest, xs = pre ++ rest ∧ greatO f rest m = some (r1, r2) ∧ GreatAt w gi cap m 0 0 W) (fun c W => c = .ret ∧ ∃ m, GreatAt w gi cap m r1 r2 W)
    (fun pre => Bide.ex fun m => Bide.ex fun rest => Bide.and (Bide.const _) (Bide.and (Bide.const _) (GreatAt.bide (by simp; omega)))) (fun s W p v _ hp => by cases hp) (fun _ => Bide.and (Bide.const _) (Bide.ex fun m => GreatAt.bide (by simp; omega))) ⟨n, xs, rfl, H.out, HA.out⟩
    (fun x a1 W => ∃ b, w.heap.size + 4 ≤ b ∧ a1 = { tmps := #[.func (.func gf) #[] lb, .int .i64 n, .func (.func gi) #[] cap, undef, .pointer (some ⟨w.heap.size, 0, none⟩), .pointer (some ⟨w.heap.size + 1, 0, none⟩), .pointer (some ⟨w.heap.size + 2, 0, none⟩), .pointer (some ⟨w.heap.size + 3, 0, none⟩), .pointer (some ⟨b, 0, none⟩), undef, undef, .func (.func gf) #[] lb, .agg #[.int .i64 x.f0, .int .i64 x.f1], undef, undef, undef, undef, undef, undef, undef, undef, undef, undef, undef, undef, undef, undef], defers := [] } ∧ W.heap[b]? = some (.cells #[.int .i64 x.f0, .int .i64 x.f1] 50 (0, 0)))
    (fun x a => Bide.ex fun b => Bide.and (Bide.const _) (Bide.and (Bide.const _) (Bide.blk _ _ _))) ?assign ?body ?done ?stop
  case assign =>
    intro l x W K hz hK
    simp only [World.size_alloc] at hz
    gi_wp2
    refine hK _ _ ?_ ⟨W.heap.size, by omega, rfl, ?_⟩
    · exact (Below.refl _ _).alloc (Nat.le_refl _) _
    · exact World.alloc_heap_new _ _
  case body =>
    rintro l pre x rest _ W hx hzW ⟨m, rest', hx2, hg, hA6⟩ ⟨b, hb, rfl, hblk⟩
    have hrr : rest' = x :: rest := List.append_cancel_left (hx2.symm.trans hx)
    subst hrr
    simp only [greatO] at hg
    obtain ⟨⟨a, e⟩, hfx, hg⟩ := Option.bind_eq_some_iff.mp hg
    simp only [World.size_alloc] at hzW
    have hmem : x ∈ xs := by rw [hx]; simp
    have HC := Aside0.mk (HF.out x a e W hmem hfx (KeepI.of_below hA6.bel))
    have q1 := blk_cell hblk 0
    have q2 := blk_cell hblk 1
    have q3 := hA6.xf.cell
    have HX := Aside0.mk hx2
    have HA6 := Aside0.mk hA6
    clear hA6 hx hx2 hmem hfx hblk HA H HI
    refine wpIn_block (wpIn_seq_k fun K hK => ?_)
    have HK := Lib.hid hK
    clear hK
    refine round_region (fun _ _ h => h) (by rfl) ?_
    go_wp2_with fail
    refine HC.out.mono ?_
    rintro e_ w5 ⟨rfl, hb5⟩
    have hA5 := HA6.out.below hb5
    have p0 := hA5.xn.cell
    have p0f := hA5.xn.frozen
    have p2 := hA5.xw.cell
    have p2f := hA5.xw.frozen
    have p3 := hA5.xe.cell
    have p3f := hA5.xe.frozen
    have HA5 := Aside0.mk hA5
    clear hA5
    go_wp2_with fail
    refine HK.out _ _ ?_
    clear HK HC
    by_cases he : e = 0
    · subst he
      rw [if_pos rfl] at hg
      have HG := Aside0.mk hg
      clear hg
      gi_wp2
      · rename m < a => hma
        have em : mx m a = a := by unfold mx; rw [if_pos hma]
        refine ⟨((Tame.refl n₀ Bs W).of_below hb5).setCell (p := ⟨w.heap.size, 0, none⟩) HA5.out.xn hn (fun h => by have h2 : w.heap.size < w.heap.size := hBs _ h; omega) _, a, rest, by rw [HX.out]; simp, ?_, HA5.out.setN a⟩
        have := HG.out
        rwa [em] at this
      · rename a ≤ m => hma
        have em : mx m a = m := by unfold mx; rw [if_neg (by omega)]
        refine ⟨((Tame.refl n₀ Bs W).of_below hb5).setCell (p := ⟨w.heap.size, 0, none⟩) HA5.out.xn hn (fun h => by have h2 : w.heap.size < w.heap.size := hBs _ h; omega) _, m, rest, by rw [HX.out]; simp, ?_, HA5.out.setN m⟩
        have := HG.out
        rwa [em] at this
    · have d1 : (e != 0) = true := bne_iff_ne.2 he
      rw [if_neg he] at hg
      obtain ⟨rfl, rfl⟩ := Prod.mk.inj (Option.some.inj hg)
      gi_wp2
      refine ⟨(((Tame.refl n₀ Bs W).of_below hb5).setCell (p := ⟨w.heap.size + 2, 0, none⟩) HA5.out.xw (by simp; omega) (fun h => by have h2 : w.heap.size + 2 < w.heap.size := hBs _ h; omega) _).setCell (p := ⟨w.heap.size + 3, 0, none⟩) (HA5.out.setW a).xe (by simp; omega) (fun h => by have h2 : w.heap.size + 3 < w.heap.size := hBs _ h; omega) _, rfl, m, (HA5.out.setW a).setE e⟩
  case done =>
    rintro D W hD ⟨m, rest, hx, hg, hA6⟩ hK
    simp only [World.size_alloc] at hD
    have hr0 : rest = [] := by
      have h2 : xs ++ [] = xs ++ rest := by rw [List.append_nil]; exact hx
      exact (List.append_cancel_left h2).symm
    subst hr0
    simp only [greatO, Option.some.injEq, Prod.mk.injEq] at hg
    obtain ⟨rfl, rfl⟩ := hg
    have p0 := hA6.xn.cell
    have p2 := hA6.xw.cell
    have p2f := hA6.xw.frozen
    have p3 := hA6.xe.cell
    have p3f := hA6.xe.frozen
    have HA6 := Aside0.mk hA6
    clear hA6 HA H HI hx
    go_wp2_with fail
    have hK2 : ((W.setCell ⟨w.heap.size + 2, 0, none⟩ (.int .i64 m)).setCell ⟨w.heap.size + 3, 0, none⟩ (.int .i64 0)).heap[D]? = some (.deferred (some [])) :=
      (Below.heap_setCell _ ⟨w.heap.size + 3, 0, none⟩ _ D (by simp; omega)).trans ((Below.heap_setCell W ⟨w.heap.size + 2, 0, none⟩ _ D (by simp; omega)).trans hK)
    have hA7 := (GreatAt.bide (B := w.heap.size) (Nat.le_refl _)).putObj (.deferred none) ((HA6.out.setW m).setE 0) (show w.heap.size ≤ D by omega) hK2 rfl
    exact leave_mark hK2 (leave_ii_ rfl Try.underlying2 Try.underlying24 (w.heap.size + 2) (w.heap.size + 3) _ _ rfl rfl hA7.xw.cell hA7.xe.cell ⟨rfl, hA7.bel⟩)
  case stop =>
    rintro D c W hD ⟨rfl, m, hA6⟩ hK
    simp only [World.size_alloc] at hD
    go_wp2_with fail
    have hA7 := (GreatAt.bide (B := w.heap.size) (Nat.le_refl _)).putObj (.deferred none) hA6 (show w.heap.size ≤ D by omega) hK rfl
    exact leave_mark hK (leave_ii_ rfl Try.underlying2 Try.underlying24 (w.heap.size + 2) (w.heap.size + 3) _ _ rfl rfl hA7.xw.cell hA7.xe.cell ⟨rfl, hA7.bel⟩)
theorem partsL_in (l : List S35) (p : S35 → Bool) : ∀ (n : Nat) (i : Int), 0 ≤ i → i ≤ (l.length : Int) → ∀ x ∈ partsL l p n i, 0 ≤ x.f0 ∧ x.f0 ≤ x.f1 ∧ x.f1 ≤ (l.length : Int)
  | 0, _, _, _, x, hx => by cases hx
  | n + 1, i, h0, h1, x, hx => by
    unfold partsL at hx
    split at hx
    · rename_i hi
      have he := endP_ge l p (l.length + 1) (i + 1) (by omega)
      rcases List.mem_cons.1 hx with rfl | h2
      · exact ⟨h0, by simp only; omega, he.2⟩
      · exact partsL_in l p n _ (by omega) he.2 x h2
    · cases hx
theorem mm_pass (gi : Nat) (p : S35 → Bool) (A0 : Option Addr) (c0 : Nat) (l0 : List S35) (n r1 r2 : Int) (w W0 : World) (heg : ∀ args w, (callFunc gi args).run Try.prog w = .ok (.enter gi args) w)
    (hp : ∀ (c : S35) (W : World), Calls Try.prog gi #[.agg #[.int .u8 c.f0, .int .i64 c.f1, .int .i64 c.f2, .int .i64 c.f3, .bool c.f4, .bool c.f5]] W fun e W' => e = .returned (.bool (p c)) ∧ Below W.heap.size W W')
    (hb : Boxed W0 w.heap.size 22 (.slice A0 l0.length c0)) (hW : Below w.heap.size w W0) (h0 : Kd.C k35 w A0 l0.length l0) (hc0 : l0.length ≤ c0) (hg : greatO (fitX l0) (partsL l0 p (l0.length + 1) 0) n = some (r1, r2)) :
    Calls Try.prog 44 #[.func (.func 55) #[] #[.pointer (some ⟨W0.heap.size, 0, none⟩), .pointer (some ⟨W0.heap.size + 1, 0, none⟩)], .int .i64 n, .func (.func 43) #[] #[.pointer (some ⟨w.heap.size, 0, none⟩)]]
      ((W0.alloc (.cells #[.slice A0 l0.length c0] 22)).alloc (.cells #[.func (.func gi) #[] #[]] 57)) fun e w' => e = .returned (.tuple #[.int .i64 r1, .int .i64 r2]) ∧ Boxed w' w.heap.size 22 (.slice A0 l0.length c0) ∧ Below w.heap.size w w' := by
  have hz := hb.lt
  have hC := Kd.C_below h0 hW
  have hI := made_iter gi p A0 c0 l0 W0 hC heg hp _ rfl
  have hb2 : Below W0.heap.size W0 ((W0.alloc (.cells #[.slice A0 l0.length c0] 22)).alloc (.cells #[.func (.func gi) #[] #[]] 57)) := ((Below.refl _ _).alloc (Nat.le_refl _) _).alloc (by simp) _
  have hz2 : ((W0.alloc (.cells #[.slice A0 l0.length c0] 22)).alloc (.cells #[.func (.func gi) #[] #[]] 57)).heap.size = W0.heap.size + 2 := by simp
  generalize (W0.alloc (.cells #[.slice A0 l0.length c0] 22)).alloc (.cells #[.func (.func gi) #[] #[]] 57) = W4 at hI hb2 hz2 ⊢
  have hb4 := boxed_below hb hb2
  have hC4 := Kd.C_below hC hb2
  refine (great_any 55 _ W0.heap.size 43 _ [W0.heap.size, W0.heap.size + 1] (fitX l0) (partsL l0 p (l0.length + 1) 0) n r1 r2 W4 (enters_of Try.func55 (by kernel_rfl) rfl) (enters_of Try.func43 (by kernel_rfl) rfl) hI (by omega) (fun B hB => by simp at hB; omega) rfl (fun x a b W hx hfx hk => ?_) hg).mono ?_
  · obtain ⟨x0, x1, x2⟩ := partsL_in l0 p (l0.length + 1) 0 (by omega) (by omega) x hx
    have := fit_any w.heap.size A0 c0 l0 x a b W (boxed_keepI hb4 hk (.inl (by omega))) (C_keepI Kc35 hC4 (block_of_C hC4 z35 (by decide)) hk) hc0 x0 x1 x2 hfx
    simpa using this
  · rintro e w' ⟨rfl, hw'⟩
    exact ⟨rfl, boxed_below hb4 hw', below_step (below_step hW hb2) hw'⟩
def intrinsic_MinMax.f (l0 : List S35) : Option (Int × Int × Int) := if l0.length ≤ 999999999999 then ((greatO (fitX l0) (partsL l0 softB (l0.length + 1) 0) 0).bind fun a => if a.2 = 0 then ((greatO (fitX l0) (partsL l0 neverB (l0.length + 1) 0) a.1).bind fun b => if b.2 = 0 then some (a.1, b.1, 0) else some (0, 0, b.2)) else some (0, 0, a.2)) else none
theorem below_box_ (w : World) (v : Value) (t : TypeId) : Below w.heap.size w (w.alloc (.cells #[v] t)) := (Below.refl _ w).alloc (Nat.le_refl _) _
set_option maxRecDepth 100000 in
set_option maxHeartbeats 4000000 in
theorem intrinsic_MinMax.calls (A0 : Option Addr) (c0 : Nat) (l0 : List S35) (r1 r2 r3 : Int) (w : World) (h0 : Kd.C k35 w A0 l0.length l0) (hc0 : l0.length ≤ c0) (h : intrinsic_MinMax.f l0 = some (r1, r2, r3)) :
    Calls Try.prog 25 #[.slice A0 l0.length c0] w fun e w' => e = .returned (.tuple #[.int .i64 r1, .int .i64 r2, .int .i64 r3]) ∧ Below w.heap.size w w' := by
  unfold intrinsic_MinMax.f at h
  split at h
  case isFalse => cases h
  obtain ⟨⟨a, e⟩, ha, h⟩ := Option.bind_eq_some_iff.mp h
  have hx := Boxed.new w 22 (.slice A0 l0.length c0)
  have hB := below_box_ w (.slice A0 l0.length c0) 22
  have HP := Aside0.mk (mm_pass 46 softB A0 c0 l0 0 a e w _ (enters_of Try.func46 (by kernel_rfl) rfl) soft_any hx hB h0 hc0 ha)
  have q0 := hx.cell
  clear hx hB ha
  go_enter Try.func25, Try.ntmps25
  go_wp2_with (first | (go_at_call 45; refine Aside0.out ?_))
  refine Aside0.mk ?_
  generalize w.alloc (.cells #[.slice A0 l0.length c0] 22) = W0 at HP q0 ⊢
  refine (parts_any A0 l0.length c0 (.func (.func 46) #[] #[]) W0 rfl).mono ?_
  rintro e_ W4 ⟨rfl, hW4⟩
  rw [hW4] at HP
  clear hW4
  go_wp2_with (first | (go_at_call 44; refine Aside0.out ?_))
  refine Aside0.mk ?_
  refine HP.out.mono ?_
  rintro e_ W5 ⟨rfl, hx5, hB5⟩
  clear HP
  by_cases he : e = 0
  · subst he
    have h := (if_pos rfl).symm.trans h
    obtain ⟨⟨b, g⟩, hb, h⟩ := Option.bind_eq_some_iff.mp h
    have HP := Aside0.mk (mm_pass 47 neverB A0 c0 l0 a b g w W5 (enters_of Try.func47 (by kernel_rfl) rfl) never_any hx5 hB5 h0 hc0 hb)
    have q5 := hx5.cell
    clear hx5 hB5 hb
    go_wp2_with (first | (go_at_call 45; refine Aside0.out ?_))
    refine Aside0.mk ?_
    refine (parts_any A0 l0.length c0 (.func (.func 47) #[] #[]) W5 rfl).mono ?_
    rintro e_ W6 ⟨rfl, hW6⟩
    rw [hW6] at HP
    clear hW6
    go_wp2_with (first | (go_at_call 44; refine Aside0.out ?_))
    refine Aside0.mk ?_
    refine HP.out.mono ?_
    rintro e_ W7 ⟨rfl, hx7, hB7⟩
    clear HP
    by_cases hg : g = 0
    · subst hg
      have h := (if_pos rfl).symm.trans h
      simp only [Option.some.injEq, Prod.mk.injEq] at h
      obtain ⟨rfl, rfl, rfl⟩ := h
      go_wp2_with fail
      go_ret3
      exact ⟨rfl, hB7⟩
    · have d1 : (g != 0) = true := bne_iff_ne.2 hg
      have h := (if_neg hg).symm.trans h
      simp only [Option.some.injEq, Prod.mk.injEq] at h
      obtain ⟨rfl, rfl, rfl⟩ := h
      go_wp2_with fail
      go_ret3
      exact ⟨rfl, hB7⟩
  · have d1 : (e != 0) = true := bne_iff_ne.2 he
    have h := (if_neg he).symm.trans h
    simp only [Option.some.injEq, Prod.mk.injEq] at h
    obtain ⟨rfl, rfl, rfl⟩ := h
    go_wp2_with fail
    go_ret3
    exact ⟨rfl, hB5⟩
end

end Go.Proofs.Ytkegnlidlabjeaa.HIntr
