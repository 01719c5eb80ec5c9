-- Written by this claim's own program over the kit's print.
import Derived.Test.YtdmlnkgpjileaaaM3
import Derived.Test.YtdmlnkgpjileaaaHFirstCx4
import Derived.Test.YtdmlnkgpjileaaaHFirstCx8
import Derived.Test.YtdmlnkgpjileaaaHFirstCx16
import Derived.Test.YtdmlnkgpjileaaaM2
import Derived.StillTailTactics
import Derived.Laws.Externs
import Derived.BigFrameIn
import Derived.Lib.Hide
import Derived.Sort.LoopGhostIn
import Derived.BigQuiet
namespace Go.Proofs.Ytdmlnkgpjileaaa.HFirstC
open Go.RowKit Go.Proofs.YtdmlnkgpjileaaaW.PrintWords Go.Proofs.YtdmlnkgpjileaaaW.PrintLast Go.Proofs.YtdmlnkgpjileaaaW.PrintMore
attribute [local go_sem] max2_int min2_int max_two min_two max_three min_three max_four min_four   -- for this text's walks alone
set_option linter.unusedVariables false
set_option linter.unusedSimpArgs false

-- BY HAND: function 9
section
open Go.Proofs.Ytdmlnkgpjileaaa.Hand
/-- The lines that one after the other are tried, from a row, a place and a room on; behind the first, all in another row and room. -/
def goesO (f : List S46 → Int → Int → Int → Option (Int × Int × Bool × Int)) (l1 : List S46) (b0 b1 : Int) : Nat → List S46 → Int → Int → Int → Option (List (S43 × Int))
  | 0, _, _, _, _ => none
  | n + 1, row, at_, r0, r1 => (f row at_ r0 r1).bind fun t => if t.2.2.2 = 0 then (if t.2.2.1 = true ∨ t.2.1 < (row.length : Int) then (goesO f l1 b0 b1 n l1 t.2.1 b0 b1).bind fun ys => some ((⟨t.1, t.2.1, t.2.2.1⟩, 0) :: ys) else some [(⟨t.1, t.2.1, t.2.2.1⟩, 0)]) else some [(⟨t.1, t.2.1, t.2.2.1⟩, t.2.2.2)]
theorem Kc_line {W W' : World} {x : S46} {cs : List Value} (h : k46.K W x cs) : k46.K W' x cs := by rw [k46_open h]; exact k46_mk W' x
/-- What ends as it goes on. -/
theorem region_keep {F : Fence} {n : Nat} {P : Program} {c : Code} {K : Act → World → Prop} {Q' : Exit → Act → World → Prop} {a : Act} {w : World} (h : c.wpIn F n P (Exit.then K (fun _ _ _ => False)) a w) : c.wpIn F n P (Exit.then K Q') a w :=
  wpIn_mono h (fun e a w h => by cases e <;> first | exact h | exact h.elim)
/-- A row that lies below a number. -/
structure RowIn (n₀ : Nat) (W : World) (A : Option Addr) (c : Nat) (l : List S46) : Prop where
  lies : Kd.C k46 W A l.length l
  cap : l.length ≤ c
  old : ∀ ad, A = some ad → 0 < l.length → ad.block < n₀
set_option maxRecDepth 100000 in
set_option maxHeartbeats 4000000 in
theorem lines_iter (f : List S46 → Int → Int → Int → Option (Int × Int × Bool × Int))
    (hOne : ∀ (A : Option Addr) (c : Nat) (l : List S46) (a r0 r1 t1 t2 : Int) (t3 : Bool) (t4 : Int) (w : World), Kd.C k46 w A l.length l → l.length ≤ c → f l a r0 r1 = some (t1, t2, t3, t4) →
      Calls Try.prog 18 #[.slice A l.length c, .int .i64 a, .agg #[.int .i64 r0, .int .i64 r1]] w fun e w' => e = .returned (.tuple #[.agg #[.int .i64 t1, .int .i64 t2, .bool t3], .int .i64 t4]) ∧ Below w.heap.size w w')
    (Bf Ba Br Bb n₀ n : Nat) (Bs : List Nat) (A0 A1 : Option Addr) (c0 c1 : Nat) (l0 l1 : List S46) (a0 a1 b0 b1 : Int) (xs : List (S43 × Int)) (w : World)
    (hf : Boxed w Bf 22 (.slice A0 l0.length c0)) (hr : Boxed w Br 22 (.slice A1 l1.length c1)) (ha : w.heap[Ba]? = some (.cells #[.int .i64 a0, .int .i64 a1] 24 (0, 0))) (hb : w.heap[Bb]? = some (.cells #[.int .i64 b0, .int .i64 b1] 24 (0, 0)))
    (h0 : RowIn n₀ w A0 c0 l0) (h1 : RowIn n₀ w A1 c1 l1) (hfB : Bf ∈ Bs) (hrB : Br ∈ Bs) (haB : Ba ∈ Bs) (hbB : Bb ∈ Bs) (hnw : n₀ ≤ w.heap.size) (hBs : ∀ B ∈ Bs, B < w.heap.size)
    (hxs : goesO f l1 b0 b1 n l0 0 a0 a1 = some xs) :
    IterC Try.prog 38 #[.pointer (some ⟨Bf, 0, none⟩), .pointer (some ⟨Ba, 0, none⟩), .pointer (some ⟨Br, 0, none⟩), .pointer (some ⟨Bb, 0, none⟩)] (fun p : S43 × Int => #[.agg #[.int .i64 p.1.f0, .int .i64 p.1.f1, .bool p.1.f2], .int .i64 p.2]) n₀ Bs xs w := by
  intro l J Jx W hW hJ hJx hJM hY C0 hC0 hJ0
  have H0 := Aside0.mk (show RowIn n₀ W A0 c0 l0 from ⟨Kd.C_below h0.lies hW, h0.cap, h0.old⟩)
  have H1 := Aside0.mk (show RowIn n₀ W A1 c1 l1 from ⟨Kd.C_below h1.lies hW, h1.cap, h1.old⟩)
  have rf := Aside0.mk (boxed_below hf hW)
  have rr := Aside0.mk (boxed_below hr hW)
  have ra := Aside0.mk (blk_below ha hW)
  have rb := Aside0.mk (blk_below hb hW)
  have HXS := Aside0.mk hxs
  have HO := Aside0.mk hOne
  have NW := Aside0.mk (Nat.le_trans hnw hW.size)
  have NB := Aside0.mk (fun B hB => Nat.lt_of_lt_of_le (hBs B hB) hW.size)
  have hC0 := Aside0.mk hC0
  have hJ0 := Aside0.mk hJ0
  clear hxs hOne hf hr ha hb h0 h1 hnw hBs hW
  have cf0 := rf.out.cell
  obtain ⟨ca0, ca1⟩ := cz2 ra
  have cf0o := fun o => (rf.out.alloc o).cell
  have ca0o := fun (o : Obj) => (blk_cell (blk_alloc ra.out o) 0).trans (show _ = some (Value.int .i64 a0) from rfl)
  have ca1o := fun (o : Obj) => (blk_cell (blk_alloc ra.out o) 1).trans (show _ = some (Value.int .i64 a1) from rfl)
  show CallsIn Fence.wide 8 Try.prog 38 #[.func (.yield l) #[] #[], .pointer (some ⟨Bf, 0, none⟩), .pointer (some ⟨Ba, 0, none⟩), .pointer (some ⟨Br, 0, none⟩), .pointer (some ⟨Bb, 0, none⟩)] W _
  refine callsIn_of_wp Try.func38 rfl trivial ?_ rfl
  simp only [Try.ntmps38, List.size_toArray, List.length_cons, List.length_nil, Nat.reduceAdd, Nat.reduceSub, Array.replicate_succ, Array.replicate_zero, List.push_toArray, List.append_toArray, List.nil_append, List.cons_append]
  gi_wp2
  gi_region
  have hB1 : Below W.heap.size W (W.alloc (Obj.cells #[Value.int IntKind.i64 a0, Value.int IntKind.i64 a1] 24)).drew := below_drew1 (below_alloc (Below.refl _ _) _)
  have hZ1 : (W.alloc (Obj.cells #[Value.int IntKind.i64 a0, Value.int IntKind.i64 a1] 24)).drew.heap[W.heap.size]? = some (.cells #[.int .i64 a0, .int .i64 a1] 24 (0, 0)) := World.alloc_heap_new W _
  have hS1 : (W.alloc (Obj.cells #[Value.int IntKind.i64 a0, Value.int IntKind.i64 a1] 24)).drew.heap.size = W.heap.size + 1 := World.size_alloc W _
  generalize (W.alloc (Obj.cells #[Value.int IntKind.i64 a0, Value.int IntKind.i64 a1] 24)).drew = W1 at hB1 hZ1 hS1 ⊢
  have HZ1 := Aside0.mk hZ1
  have HJ1 := Aside0.mk (hJ _ _ _ _ hJ0.out hB1)
  have HC1 := Aside0.mk (show ∀ k, C0 k → k ≠ W.heap.size ∧ k < W1.heap.size from fun k hk => by have := hC0.out k hk; omega)
  have HK1 := Aside0.mk (show KeepI n₀ Bs W W1 from KeepI.of_below hB1)
  have HS1 := Aside0.mk (show W.heap.size < W1.heap.size by omega)
  clear hB1 hZ1 hS1 hJ0 hC0 cf0 ca0 ca1 cf0o ca0o ca1o
  simp only [Exit.then]
  gi_wp2
  gi_loopg [6, 8, 9] n (fun kq v6 v8 v9 wr => ∃ (A : Option Addr) (c : Nat) (row : List S46) (at_ r0 r1 : Int) (more : Bool) (pre rest : List (S43 × Int)) (C : Nat → Prop), v6 = .slice A row.length c ∧ v8 = .int .i64 at_ ∧ v9 = .bool more ∧ Aside0 (xs = pre ++ rest) ∧ Aside0 (if more = true then goesO f l1 b0 b1 kq row at_ r0 r1 = some rest else rest = []) ∧ Aside0 (RowIn n₀ W A c row) ∧
    Aside0 (wr.heap[W.heap.size]? = some (.cells #[.int .i64 r0, .int .i64 r1] 24 (0, 0))) ∧ Aside0 (J C pre wr) ∧ Aside0 (∀ k, C k → k ≠ W.heap.size ∧ k < wr.heap.size) ∧ Aside0 (KeepI n₀ Bs W wr))
  case atStart => exact ⟨A0, c0, l0, 0, a0, a1, true, [], xs, C0, rfl, rfl, rfl, ⟨rfl⟩, HXS, H0, HZ1, HJ1, HC1, HK1⟩
  case round =>
    clear HXS HZ1 HJ1 HC1 HK1 HS1
    obtain ⟨A, c, row, at_, r0, r1, more, pre, rest, C, rfl, rfl, rfl, hx, hr, hrow, hz, hJs, hC, hK⟩ := hrel
    cases more with
    | false =>
      gi_wp2
      go_end0
      have hr2 := hr.out
      rw [if_neg (by decide)] at hr2
      exact ⟨⟨_, rfl⟩, .inl ⟨C, by rw [hx.out, hr2, List.append_nil]; exact hJs.out⟩⟩
    | true =>
    have hr2 := hr.out
    rw [if_pos rfl] at hr2
    cases gk with
    | zero => cases hr2
    | succ m =>
    simp only [goesO] at hr2
    obtain ⟨⟨t1, t2, t3, t4⟩, ho, hr2⟩ := Option.bind_eq_some_iff.mp hr2
    simp only at hr2
    have HR2 := Aside0.mk hr2
    have HO2 := Aside0.mk ho
    clear hr2 ho hr
    obtain ⟨cz0, cz1⟩ := cz2 hz
    gi_wp2_with (first | (refine ⟨trivial, ?_⟩; gi_at_call 18; refine Aside0.out ?_))
    refine Aside0.mk ?_
    refine callsIn_wide.2 ((HO.out A c row at_ r0 r1 t1 t2 t3 t4 wr (C_keepI Kc_line hrow.out.lies hrow.out.old hK.out) hrow.out.cap HO2.out).mono ?_)
    rintro e_ w5 ⟨rfl, hb5⟩
    dsimp only
    have hJ5 := hJ _ _ _ _ hJs.out hb5
    have hK5 := hK.out.below hb5
    have hz5 := blk_below hz.out hb5
    have hC5 := Aside0.mk (show ∀ k, C k → k ≠ W.heap.size ∧ k < w5.heap.size from fun k hk => by have := hC.out k hk; have := hb5.size; omega)
    have hn5 := Aside0.mk (show W.heap.size < w5.heap.size from Nat.lt_of_lt_of_le (blk_lt hz.out) hb5.size)
    have HR3 : ∃ ys, rest = (⟨t1, t2, t3⟩, t4) :: ys ∧ ((t4 = 0 ∧ (t3 = true ∨ t2 < (row.length : Int)) ∧ goesO f l1 b0 b1 m l1 t2 b0 b1 = some ys) ∨ (t4 = 0 ∧ ¬ (t3 = true ∨ t2 < (row.length : Int)) ∧ ys = []) ∨ (t4 ≠ 0 ∧ ys = [])) := by
      have hr2 := HR2.out
      by_cases h4 : t4 = 0
      · rw [if_pos h4] at hr2
        by_cases h3 : t3 = true ∨ t2 < (row.length : Int)
        · rw [if_pos h3] at hr2
          obtain ⟨ys, hy, hr2⟩ := Option.bind_eq_some_iff.mp hr2
          exact ⟨ys, by rw [h4]; exact (Option.some.inj hr2).symm, .inl ⟨h4, h3, hy⟩⟩
        · rw [if_neg h3] at hr2
          exact ⟨[], by rw [h4]; exact (Option.some.inj hr2).symm, .inr (.inl ⟨h4, h3, rfl⟩)⟩
      · rw [if_neg h4] at hr2
        exact ⟨[], (Option.some.inj hr2).symm, .inr (.inr ⟨h4, rfl⟩)⟩
    obtain ⟨ys, hys, HR3⟩ := HR3
    have hx2 := hx.out
    rw [hys] at hx2
    have HX2 := Aside0.mk hx2
    have HR := Aside0.mk HR3
    have HJ5 := Aside0.mk hJ5
    have HK5 := Aside0.mk hK5
    have HZ5 := Aside0.mk hz5
    clear HR2 HO2 hz hJs hC hK hb5 hJ5 hK5 hz5 HR3 hys hx2 hx cz0 cz1
    gi_wp2
    have hb6 : Below w5.heap.size w5 (w5.alloc (Obj.cells #[Value.int IntKind.i64 t1, Value.int IntKind.i64 t2, Value.bool t3] 43)) := below_alloc (Below.refl _ _) _
    have hg6 : (w5.alloc (Obj.cells #[Value.int IntKind.i64 t1, Value.int IntKind.i64 t2, Value.bool t3] 43)).heap[w5.heap.size]? = some (.cells #[.int .i64 t1, .int .i64 t2, .bool t3] 43 (0, 0)) := World.alloc_heap_new w5 _
    generalize (w5.alloc (Obj.cells #[Value.int IntKind.i64 t1, Value.int IntKind.i64 t2, Value.bool t3] 43)) = w6 at hb6 hg6 ⊢
    have hJ6 := hJ _ _ _ _ HJ5.out hb6
    obtain ⟨fn, tmps, assign, body, hy, hR⟩ := hY C pre (⟨t1, t2, t3⟩, t4) ys w6 HX2.out hJ6
    try dsimp only at hy
    rw [hy]
    clear hy
    gi_wp2
    refine hR.mono ?_
    have hz6 := blk_below HZ5.out hb6
    have hK6 := HK5.out.below hb6
    have HC := hC5.out
    rintro e_ W3 (⟨rfl, ⟨C', hJ3, hC'⟩, hk3, hz3⟩ | ⟨rfl, hJx3⟩)
    · have HZ3 := Aside0.mk ((hz3.block W.heap.size (blk_lt hz6) (Nat.le_refl _) (fun h => (HC _ h).1 rfl)).trans hz6)
      have HG3 := Aside0.mk ((hz3.block w5.heap.size (blk_lt hg6) (Nat.le_of_lt hn5.out) (fun h => by have := (HC _ h).2; omega)).trans hg6)
      have HK3 := Aside0.mk (hK6.trans hk3)
      have HJ3 := Aside0.mk hJ3
      have HC3 := Aside0.mk (show ∀ k, C' k → k ≠ W.heap.size ∧ k < W3.heap.size from fun k hk => by
        have h6 := hb6.size
        have h3 := hk3.size
        have hn := hn5.out
        rcases hC' k hk with h | ⟨h, h'⟩
        · have := HC k h; omega
        · omega)
      clear hJ3 hC' hk3 hz3 hz6 hg6 hK6 HC hJ6 hb6 hR HZ5 HJ5 HK5 hC5 hn5
      have HRo := HR.out
      clear HR
      rcases HRo with ⟨rfl, hc, hg⟩ | ⟨rfl, hc, rfl⟩ | ⟨h4, rfl⟩
      · have e0 : ((0 : Int) != 0) = false := rfl
        obtain ⟨g0, g1, g2⟩ := cz3 HG3
        obtain ⟨z0, z1⟩ := cz2 HZ3
        obtain ⟨y0, y1⟩ := fz2 HZ3
        have cr := (boxed_keepI rr.out HK3.out (.inr hrB)).cell
        have rb3 := Aside0.mk ((HK3.out.block Bb (blk_lt rb.out) (.inr hbB)).trans rb.out)
        obtain ⟨b0c, b1c⟩ := cz2 rb3
        have HG := Aside0.mk hg
        clear hg
        cases t3 with
        | true =>
          clear hc
          gi_wp2
          refine wpIn_wide.2 ?_
          refine wp_region_still_lit (by kernel_rfl) (by kernel_rfl) ?_
          repeat still_step
          refine wpStill_nil ?_
          simp only [Exit.inBlock, Exit.then]
          gi_wp2
          gi_region
          simp only [Exit.then]
          gi_wp2
          have bK : Below W3.heap.size W3 W3 := Below.refl _ _
          have hJ9 : J C' (pre ++ [((⟨t1, t2, true⟩ : S43), (0 : Int))]) (((W3.setCell ⟨W.heap.size, 0, none⟩ (.int .i64 b0)).setCell ⟨W.heap.size, 1, none⟩ (.int .i64 b1)).drew.drew) :=
            hJ _ _ _ _ (hJM _ _ _ ⟨W.heap.size, 1, none⟩ _ (hJM _ _ _ ⟨W.heap.size, 0, none⟩ _ HJ3.out (Nat.le_refl _) (fun h => (HC3.out _ h).1 rfl)) (Nat.le_refl _) (fun h => (HC3.out _ h).1 rfl)) (below_drew1 (below_drew1 (Below.refl _ _)))
          have hZ9 : (((W3.setCell ⟨W.heap.size, 0, none⟩ (.int .i64 b0)).setCell ⟨W.heap.size, 1, none⟩ (.int .i64 b1)).drew.drew).heap[W.heap.size]? = some (.cells #[.int .i64 b0, .int .i64 b1] 24 (0, 0)) :=
            blk_set (blk_set HZ3.out 0 (.int .i64 b0)) 1 (.int .i64 b1)
          have hK9 : KeepI n₀ Bs W (((W3.setCell ⟨W.heap.size, 0, none⟩ (.int .i64 b0)).setCell ⟨W.heap.size, 1, none⟩ (.int .i64 b1)).drew.drew) :=
            ((HK3.out.setCell _ NW.out (fun h => Nat.lt_irrefl _ (NB.out _ h))).setCell _ NW.out (fun h => Nat.lt_irrefl _ (NB.out _ h))).below (below_drew1 (below_drew1 (Below.refl _ _)))
          have hC9 : ∀ k, C' k → k ≠ W.heap.size ∧ k < (((W3.setCell ⟨W.heap.size, 0, none⟩ (.int .i64 b0)).setCell ⟨W.heap.size, 1, none⟩ (.int .i64 b1)).drew.drew).heap.size := fun k hk => by
            have := HC3.out k hk
            refine ⟨this.1, ?_⟩
            simpa [World.setCell] using this.2
          generalize (((W3.setCell ⟨W.heap.size, 0, none⟩ (.int .i64 b0)).setCell ⟨W.heap.size, 1, none⟩ (.int .i64 b1)).drew.drew) = W9 at hJ9 hZ9 hK9 hC9 ⊢
          go_roundg m
          case measure => omega
          case rel => exact ⟨A1, c1, l1, t2, b0, b1, true, pre ++ [((⟨t1, t2, true⟩ : S43), (0 : Int))], ys, C', rfl, rfl, rfl, ⟨by rw [HX2.out]; simp⟩, ⟨by rw [if_pos rfl]; exact HG.out⟩, H1, ⟨hZ9⟩, ⟨hJ9⟩, ⟨hC9⟩, ⟨hK9⟩⟩
        | false =>
          have d1 : decide (t2 < (row.length : Int)) = true := decide_eq_true (hc.resolve_left (by decide))
          clear hc
          gi_wp2
          refine wpIn_wide.2 ?_
          refine wp_region_still_lit (by kernel_rfl) (by kernel_rfl) ?_
          repeat still_step
          refine wpStill_nil ?_
          simp only [Exit.inBlock, Exit.then]
          gi_wp2
          gi_region
          simp only [Exit.then]
          gi_wp2
          have bK : Below W3.heap.size W3 W3 := Below.refl _ _
          have hJ9 : J C' (pre ++ [((⟨t1, t2, false⟩ : S43), (0 : Int))]) (((W3.setCell ⟨W.heap.size, 0, none⟩ (.int .i64 b0)).setCell ⟨W.heap.size, 1, none⟩ (.int .i64 b1)).drew.drew) :=
            hJ _ _ _ _ (hJM _ _ _ ⟨W.heap.size, 1, none⟩ _ (hJM _ _ _ ⟨W.heap.size, 0, none⟩ _ HJ3.out (Nat.le_refl _) (fun h => (HC3.out _ h).1 rfl)) (Nat.le_refl _) (fun h => (HC3.out _ h).1 rfl)) (below_drew1 (below_drew1 (Below.refl _ _)))
          have hZ9 : (((W3.setCell ⟨W.heap.size, 0, none⟩ (.int .i64 b0)).setCell ⟨W.heap.size, 1, none⟩ (.int .i64 b1)).drew.drew).heap[W.heap.size]? = some (.cells #[.int .i64 b0, .int .i64 b1] 24 (0, 0)) :=
            blk_set (blk_set HZ3.out 0 (.int .i64 b0)) 1 (.int .i64 b1)
          have hK9 : KeepI n₀ Bs W (((W3.setCell ⟨W.heap.size, 0, none⟩ (.int .i64 b0)).setCell ⟨W.heap.size, 1, none⟩ (.int .i64 b1)).drew.drew) :=
            ((HK3.out.setCell _ NW.out (fun h => Nat.lt_irrefl _ (NB.out _ h))).setCell _ NW.out (fun h => Nat.lt_irrefl _ (NB.out _ h))).below (below_drew1 (below_drew1 (Below.refl _ _)))
          have hC9 : ∀ k, C' k → k ≠ W.heap.size ∧ k < (((W3.setCell ⟨W.heap.size, 0, none⟩ (.int .i64 b0)).setCell ⟨W.heap.size, 1, none⟩ (.int .i64 b1)).drew.drew).heap.size := fun k hk => by
            have := HC3.out k hk
            refine ⟨this.1, ?_⟩
            simpa [World.setCell] using this.2
          generalize (((W3.setCell ⟨W.heap.size, 0, none⟩ (.int .i64 b0)).setCell ⟨W.heap.size, 1, none⟩ (.int .i64 b1)).drew.drew) = W9 at hJ9 hZ9 hK9 hC9 ⊢
          go_roundg m
          case measure => omega
          case rel => exact ⟨A1, c1, l1, t2, b0, b1, true, pre ++ [((⟨t1, t2, false⟩ : S43), (0 : Int))], ys, C', rfl, rfl, rfl, ⟨by rw [HX2.out]; simp⟩, ⟨by rw [if_pos rfl]; exact HG.out⟩, H1, ⟨hZ9⟩, ⟨hJ9⟩, ⟨hC9⟩, ⟨hK9⟩⟩
      · have e0 : ((0 : Int) != 0) = false := rfl
        obtain ⟨g0, g1, g2⟩ := cz3 HG3
        obtain ⟨z0, z1⟩ := cz2 HZ3
        obtain ⟨y0, y1⟩ := fz2 HZ3
        have cr := (boxed_keepI rr.out HK3.out (.inr hrB)).cell
        have rb3 := Aside0.mk ((HK3.out.block Bb (blk_lt rb.out) (.inr hbB)).trans rb.out)
        obtain ⟨b0c, b1c⟩ := cz2 rb3
        cases t3 with
        | true => exact absurd (.inl rfl) hc
        | false =>
          have d1 : decide (t2 < (row.length : Int)) = false := decide_eq_false (fun h => hc (.inr h))
          clear hc
          gi_wp2
          refine wpIn_wide.2 ?_
          refine wp_region_still_lit (by kernel_rfl) (by kernel_rfl) ?_
          repeat still_step
          refine wpStill_nil ?_
          simp only [Exit.inBlock, Exit.then]
          gi_wp2
          gi_region
          simp only [Exit.then]
          gi_wp2
          have bK : Below W3.heap.size W3 W3 := Below.refl _ _
          have hJ9 : J C' (pre ++ [((⟨t1, t2, false⟩ : S43), (0 : Int))]) (((W3.setCell ⟨W.heap.size, 0, none⟩ (.int .i64 b0)).setCell ⟨W.heap.size, 1, none⟩ (.int .i64 b1)).drew.drew) :=
            hJ _ _ _ _ (hJM _ _ _ ⟨W.heap.size, 1, none⟩ _ (hJM _ _ _ ⟨W.heap.size, 0, none⟩ _ HJ3.out (Nat.le_refl _) (fun h => (HC3.out _ h).1 rfl)) (Nat.le_refl _) (fun h => (HC3.out _ h).1 rfl)) (below_drew1 (below_drew1 (Below.refl _ _)))
          have hZ9 : (((W3.setCell ⟨W.heap.size, 0, none⟩ (.int .i64 b0)).setCell ⟨W.heap.size, 1, none⟩ (.int .i64 b1)).drew.drew).heap[W.heap.size]? = some (.cells #[.int .i64 b0, .int .i64 b1] 24 (0, 0)) :=
            blk_set (blk_set HZ3.out 0 (.int .i64 b0)) 1 (.int .i64 b1)
          have hK9 : KeepI n₀ Bs W (((W3.setCell ⟨W.heap.size, 0, none⟩ (.int .i64 b0)).setCell ⟨W.heap.size, 1, none⟩ (.int .i64 b1)).drew.drew) :=
            ((HK3.out.setCell _ NW.out (fun h => Nat.lt_irrefl _ (NB.out _ h))).setCell _ NW.out (fun h => Nat.lt_irrefl _ (NB.out _ h))).below (below_drew1 (below_drew1 (Below.refl _ _)))
          have hC9 : ∀ k, C' k → k ≠ W.heap.size ∧ k < (((W3.setCell ⟨W.heap.size, 0, none⟩ (.int .i64 b0)).setCell ⟨W.heap.size, 1, none⟩ (.int .i64 b1)).drew.drew).heap.size := fun k hk => by
            have := HC3.out k hk
            refine ⟨this.1, ?_⟩
            simpa [World.setCell] using this.2
          generalize (((W3.setCell ⟨W.heap.size, 0, none⟩ (.int .i64 b0)).setCell ⟨W.heap.size, 1, none⟩ (.int .i64 b1)).drew.drew) = W9 at hJ9 hZ9 hK9 hC9 ⊢
          go_roundg m
          case measure => omega
          case rel => exact ⟨A1, c1, l1, t2, b0, b1, false, pre ++ [((⟨t1, t2, false⟩ : S43), (0 : Int))], [], C', rfl, rfl, rfl, ⟨by rw [HX2.out]; simp⟩, ⟨by rw [if_neg (by decide)]⟩, H1, ⟨hZ9⟩, ⟨hJ9⟩, ⟨hC9⟩, ⟨hK9⟩⟩
      · have e1 : (t4 != 0) = true := bne_iff_ne.2 h4
        gi_wp2
        refine bodyPost_ret (results_none rfl _ _ _) rfl ?_
        exact ⟨⟨_, rfl⟩, .inl ⟨C', by rw [HX2.out]; exact HJ3.out⟩⟩
    · gi_wp2
      refine bodyPost_ret (results_none rfl _ _ _) rfl ?_
      exact ⟨⟨_, rfl⟩, .inr hJx3⟩
end
section
open Go.Proofs.Ytdmlnkgpjileaaa.Hand
theorem results_cc_ {P : Program} {fn : Func} {p q : Tmp} {ty ty2 e : TypeId} {ik : IntKind} (h : fn.results = #[.cell p ty, .cell q ty2]) (hu : P.underlying ty = some (.slice e)) (hu2 : P.underlying ty2 = some (.int ik))
    (tmps : Array Value) (w : World) (g g2 : Nat) (v u : Value) (hp : tmps.getD p undef = .pointer (some ⟨g, 0, none⟩)) (hq : tmps.getD q undef = .pointer (some ⟨g2, 0, none⟩)) (hc : w.cell? ⟨g, 0, none⟩ = some v) (hc2 : w.cell? ⟨g2, 0, none⟩ = some u) :
    (results fn tmps).run P w = .ok (.tuple #[v, u]) w := by
  have h1 : tmps[p]?.getD undef = .pointer (some ⟨g, 0, none⟩) := by simpa using hp
  have h2 : tmps[q]?.getD undef = .pointer (some ⟨g2, 0, none⟩) := by simpa using hq
  have e1 := run_underlying hu
  have e2 := run_underlying hu2
  simp [results, h, h1, h2, asAddr, loadVar, isAgg, e1, e2, go_sem, hc, hc2]
/-- The first error, if there is one. -/
def errO : List (S43 × Int) → Int
  | [] => 0
  | p :: ps => if p.2 = 0 then errO ps else p.2
theorem lines_any (A0 : Option Addr) (n0 c0 : Nat) (A1 : Option Addr) (n1 c1 : Nat) (a0 a1 b0 b1 : Int) (w : World) : Calls Try.prog 22 #[.slice A0 n0 c0, .slice A1 n1 c1, .agg #[.int .i64 a0, .int .i64 a1], .agg #[.int .i64 b0, .int .i64 b1]] w fun e w' =>
    e = .returned (.func (.func 38) #[] #[.pointer (some ⟨w.heap.size, 0, none⟩), .pointer (some ⟨w.heap.size + 2, 0, none⟩), .pointer (some ⟨w.heap.size + 1, 0, none⟩), .pointer (some ⟨w.heap.size + 3, 0, none⟩)]) ∧
      (((w.alloc (.cells #[.slice A0 n0 c0] 22)).alloc (.cells #[.slice A1 n1 c1] 22)).alloc (.cells #[.int .i64 a0, .int .i64 a1] 24)).alloc (.cells #[.int .i64 b0, .int .i64 b1] 24) = w' := by
  go_enter Try.func22, Try.ntmps22
  go_wp2
  go_ret
  exact ⟨rfl, rfl⟩
end
section
open Go.Proofs.Ytdmlnkgpjileaaa.Hand
attribute [local go_sem] Oper.semAt_some
/-- What the call's own boxes hold. -/
structure LinAt (w : World) (a0 a1 b0 b1 : Int) (W : World) : Prop where
  xa : W.heap[w.heap.size]? = some (.cells #[.int .i64 a0, .int .i64 a1] 24 (0, 0))
  xb : W.heap[w.heap.size + 1]? = some (.cells #[.int .i64 b0, .int .i64 b1] 24 (0, 0))
  r : Boxed W (w.heap.size + 2) 29 (.slice none 0 0)
  e : Boxed W (w.heap.size + 3) 30 (.int .i64 0)
  bel : Below w.heap.size w W
theorem LinAt.step {w : World} {a0 a1 b0 b1 : Int} {W W' : World} (h : LinAt w a0 a1 b0 b1 W) (hb : Below W.heap.size W W') : LinAt w a0 a1 b0 b1 W' :=
  ⟨blk_below h.xa hb, blk_below h.xb hb, boxed_below h.r hb, boxed_below h.e hb, below_step h.bel hb⟩
theorem LinAt.far {w : World} {a0 a1 b0 b1 : Int} {W : World} (h : LinAt w a0 a1 b0 b1 W) {p : Addr} (hp : w.heap.size + 3 < p.block) (u : Value) : LinAt w a0 a1 b0 b1 (W.setCell p u) :=
  ⟨blk_far h.xa (by omega) u, blk_far h.xb (by omega) u, blk_far h.r (by omega) u, blk_far h.e (by omega) u, h.bel.setCell (by omega) u⟩
theorem errO_zero : ∀ {xs : List (S43 × Int)}, (∀ q ∈ xs, q.2 = 0) → errO xs = 0
  | [], _ => rfl
  | p :: ps, h => by
    rw [errO, if_pos (h p (List.mem_cons_self ..))]
    exact errO_zero fun q hq => h q (List.mem_cons_of_mem _ hq)
theorem errO_at {x : S43 × Int} {rest : List (S43 × Int)} (hx : x.2 ≠ 0) : ∀ {pre : List (S43 × Int)}, (∀ q ∈ pre, q.2 = 0) → errO (pre ++ x :: rest) = x.2
  | [], _ => by rw [List.nil_append, errO, if_neg hx]
  | p :: ps, h => by
    rw [List.cons_append, errO, if_pos (h p (List.mem_cons_self ..))]
    exact errO_at hx fun q hq => h q (List.mem_cons_of_mem _ hq)
theorem LinAt.bide {w : World} {a0 a1 b0 b1 : Int} {B : Nat} (hB : w.heap.size ≤ B) : Bide B (LinAt w a0 a1 b0 b1) := by
  intro X Y row hs hg hr
  exact ⟨Bide.blk _ _ _ X Y row hs.xa hg hr, Bide.blk _ _ _ X Y row hs.xb hg hr, Bide.boxed _ _ _ X Y row hs.r hg hr, Bide.boxed _ _ _ X Y row hs.e hg hr, Bide.below (Nat.le_refl _) hB X Y row hs.bel hg hr⟩
set_option maxRecDepth 100000 in
set_option maxHeartbeats 600000 in
theorem first_Lines.core (f : List S46 → Int → Int → Int → Option (Int × Int × Bool × Int))
    (hOne : ∀ (A : Option Addr) (c : Nat) (l : List S46) (a r0 r1 t1 t2 : Int) (t3 : Bool) (t4 : Int) (w : World), Kd.C k46 w A l.length l → l.length ≤ c → f l a r0 r1 = some (t1, t2, t3, t4) →
      Calls Try.prog 18 #[.slice A l.length c, .int .i64 a, .agg #[.int .i64 r0, .int .i64 r1]] w fun e w' => e = .returned (.tuple #[.agg #[.int .i64 t1, .int .i64 t2, .bool t3], .int .i64 t4]) ∧ Below w.heap.size w w')
    (k : Nat) (A0 : Option Addr) (c0 : Nat) (l0 : List S46) (A1 : Option Addr) (c1 : Nat) (l1 : List S46) (a2_0 a2_1 a3_0 a3_1 : Int) (r1 : List S43) (r2 : Int) (w : World) (hr0 : Kd.C k46 w A0 l0.length l0) (hc0 : l0.length ≤ c0) (hr1 : Kd.C k46 w A1 l1.length l1) (hc1 : l1.length ≤ c1) (h : ((fill_Ends.f k l1 0).bind fun E => if asL l0 l1 = true then (if E.2.2 = 0 then (if a3_0 < 0 then some ([], 2) else (goesO f l1 a3_0 a3_1 k l0 0 a2_0 a2_1).bind fun xs => if xs.length ≤ 1000000000000 then (if errO xs = 0 then some (xs.map (·.1), 0) else some ([], errO xs)) else none) else some ([], 2)) else some ([], 2)) = some (r1, r2)) :
    Calls Try.prog 9 #[.slice A0 l0.length c0, .slice A1 l1.length c1, .agg #[.int .i64 a2_0, .int .i64 a2_1], .agg #[.int .i64 a3_0, .int .i64 a3_1]] w fun e w' => ∃ v0_ : Value, e = .returned (.tuple #[v0_, .int .i64 r2]) ∧ Kd.R k43 43 w' w.heap.size (fun _ => True) v0_ r1 ∧ Below w.heap.size w w' := by
  obtain ⟨⟨E1, E2, e⟩, hE, h⟩ := Option.bind_eq_some_iff.mp h
  have HE := Aside0.mk hE
  have HH := Aside0.mk h
  have HR0 := Aside0.mk hr0
  have HR1 := Aside0.mk hr1
  clear hE h hr0 hr1
  have hA1 : LinAt w a2_0 a2_1 a3_0 a3_1 ((((w.alloc (.cells #[.int .i64 a2_0, .int .i64 a2_1] 24)).alloc (.cells #[.int .i64 a3_0, .int .i64 a3_1] 24)).alloc (.cells #[.slice none 0 0] 29)).alloc (.cells #[.int .i64 0] 30)) := by
    refine ⟨blk_alloc (blk_alloc (blk_alloc (World.alloc_heap_new w _) _) _) _, blk_alloc (blk_alloc ?_ _) _, (boxed_new _ _ _ _ (by simp)).alloc _, boxed_new _ _ _ _ (by simp), below_alloc (below_alloc (below_alloc (below_alloc (Below.refl _ _) _) _) _) _⟩
    have := World.alloc_heap_new (w.alloc (.cells #[.int .i64 a2_0, .int .i64 a2_1] 24)) (.cells #[.int .i64 a3_0, .int .i64 a3_1] 24)
    rwa [World.size_alloc] at this
  refine callsIn_wide.1 (callsIn_of_wp_marks (n := 9) Try.func9 rfl trivial (wpIn_wide.2 ?_) rfl)
  simp only [Try.ntmps9, List.size_toArray, List.length_cons, List.length_nil, Nat.reduceAdd, Nat.reduceSub, Array.replicate_succ, Array.replicate_zero, List.push_toArray, List.append_toArray, List.nil_append, List.cons_append]
  go_wp2_with (first | (go_at_call 21; refine Aside0.out ?_))
  refine Aside0.mk ?_
  generalize ((((w.alloc (.cells #[.int .i64 a2_0, .int .i64 a2_1] 24)).alloc (.cells #[.int .i64 a3_0, .int .i64 a3_1] 24)).alloc (.cells #[.slice none 0 0] 29)).alloc (.cells #[.int .i64 0] 30)) = W1 at hA1 ⊢
  refine (fill_Ends.calls k A1 c1 l1 0 E1 E2 e W1 (Kd.C_below HR1.out hA1.bel) hc1 HE.out).mono ?_
  rintro e_ w5 ⟨v0, v1, rfl, -, -, hb5⟩
  replace hA1 := hA1.step hb5
  clear hb5 HE
  go_wp2_with (first | (go_at_call 12; refine Aside0.out ?_))
  refine Aside0.mk ?_
  refine (first_Alike.calls A0 c0 l0 A1 c1 l1 (asL l0 l1) w5 (Kd.C_below HR0.out hA1.bel) hc0 (Kd.C_below HR1.out hA1.bel) hc1 rfl).mono ?_
  rintro e_ w6 ⟨rfl, hb6⟩
  replace hA1 := hA1.step hb6
  clear hb6
  have q1 := hA1.r.cell
  have q2 := hA1.r.frozen
  have q3 := hA1.e.cell
  have q4 := hA1.e.frozen
  obtain ⟨qa0, qa1⟩ := cz2 (Aside0.mk hA1.xa)
  obtain ⟨qb0, qb1⟩ := cz2 (Aside0.mk hA1.xb)
  have HH2 := HH.out
  clear HH
  cases hl : asL l0 l1 with
  | false =>
    rw [hl] at HH2
    replace HH2 := (if_neg (by decide)).symm.trans HH2
    simp only [Option.some.injEq, Prod.mk.injEq] at HH2
    obtain ⟨rfl, rfl⟩ := HH2
    go_wp2_with fail
    exact leave_si rfl Try.underlying29 Try.underlying30 _ _ _ _ rfl rfl (by go_simp) (by go_simp) ⟨_, rfl, Kd.R_nil _ _ _ _ _, (hA1.bel.setCell (p := ⟨w.heap.size + 2, 0, none⟩) (by simp) _).setCell (p := ⟨w.heap.size + 3, 0, none⟩) (by simp) _⟩
  | true =>
  rw [hl] at HH2
  replace HH2 := (if_pos rfl).symm.trans HH2
  by_cases he : e = 0
  · have e1 : (e != 0) = false := bne_eq_false_iff_eq.2 he
    replace HH2 := (if_pos he).symm.trans HH2
    by_cases hw : a3_0 < 0
    · have e2 : decide (a3_0 < 0) = true := decide_eq_true hw
      replace HH2 := (if_pos hw).symm.trans HH2
      simp only [Option.some.injEq, Prod.mk.injEq] at HH2
      obtain ⟨rfl, rfl⟩ := HH2
      go_wp2_with fail
      exact leave_si rfl Try.underlying29 Try.underlying30 _ _ _ _ rfl rfl (by go_simp) (by go_simp) ⟨_, rfl, Kd.R_nil _ _ _ _ _, (hA1.bel.setCell (p := ⟨w.heap.size + 2, 0, none⟩) (by simp) _).setCell (p := ⟨w.heap.size + 3, 0, none⟩) (by simp) _⟩
    · have e2 : decide (a3_0 < 0) = false := decide_eq_false hw
      replace HH2 := (if_neg hw).symm.trans HH2
      obtain ⟨xs, hxs, HH2⟩ := Option.bind_eq_some_iff.mp HH2
      have HXS := Aside0.mk hxs
      have HF := Aside0.mk HH2
      have qa0o := fun (o : Obj) => (blk_cell (blk_alloc hA1.xa o) 0).trans (show _ = some (Value.int .i64 a2_0) from rfl)
      have qa1o := fun (o : Obj) => (blk_cell (blk_alloc hA1.xa o) 1).trans (show _ = some (Value.int .i64 a2_1) from rfl)
      have qb0o := fun (o : Obj) => (blk_cell (blk_alloc hA1.xb o) 0).trans (show _ = some (Value.int .i64 a3_0) from rfl)
      have qb1o := fun (o : Obj) => (blk_cell (blk_alloc hA1.xb o) 1).trans (show _ = some (Value.int .i64 a3_1) from rfl)
      clear hxs HH2
      go_wp2_with (first | (go_at_call 22; refine Aside0.out ?_))
      refine Aside0.mk ?_
      clear qa0o qa1o qb0o qb1o q1 q2 q3 q4 qa0 qa1 qb0 qb1
      have bo := Boxed.new w6 29 (.slice none 0 0)
      have hz7 : (w6.alloc (.cells #[.slice none 0 0] 29)).heap.size = w6.heap.size + 1 := World.size_alloc _ _
      have hA7 := hA1.step (below_alloc (Below.refl _ w6) (.cells #[.slice none 0 0] 29))
      have hlt : w.heap.size + 3 < w6.heap.size := hA1.e.lt
      clear hA1
      generalize (w6.alloc (.cells #[.slice none 0 0] 29)) = w7 at bo hz7 hA7 ⊢
      refine (lines_any A0 l0.length c0 A1 l1.length c1 a2_0 a2_1 a3_0 a3_1 w7).mono ?_
      rintro e_ w8 ⟨rfl, hw8⟩
      have bf := ((boxed_new w7 w7.heap.size 22 (.slice A0 l0.length c0) rfl).alloc (.cells #[.slice A1 l1.length c1] 22)).alloc (.cells #[.int .i64 a2_0, .int .i64 a2_1] 24) |>.alloc (.cells #[.int .i64 a3_0, .int .i64 a3_1] 24)
      have br := ((boxed_new (w7.alloc (.cells #[.slice A0 l0.length c0] 22)) (w7.heap.size + 1) 22 (.slice A1 l1.length c1) (by simp)).alloc (.cells #[.int .i64 a2_0, .int .i64 a2_1] 24)).alloc (.cells #[.int .i64 a3_0, .int .i64 a3_1] 24)
      have ra := blk_alloc (World.alloc_heap_new ((w7.alloc (.cells #[.slice A0 l0.length c0] 22)).alloc (.cells #[.slice A1 l1.length c1] 22)) (.cells #[.int .i64 a2_0, .int .i64 a2_1] 24)) (.cells #[.int .i64 a3_0, .int .i64 a3_1] 24)
      have rb := World.alloc_heap_new (((w7.alloc (.cells #[.slice A0 l0.length c0] 22)).alloc (.cells #[.slice A1 l1.length c1] 22)).alloc (.cells #[.int .i64 a2_0, .int .i64 a2_1] 24)) (.cells #[.int .i64 a3_0, .int .i64 a3_1] 24)
      have hb8 : Below w7.heap.size w7 w8 := by rw [← hw8]; exact below_alloc (below_alloc (below_alloc (below_alloc (Below.refl _ _) _) _) _) _
      have hz8 : w8.heap.size = w7.heap.size + 4 := by rw [← hw8]; simp
      simp only [World.size_alloc] at ra rb
      rw [hw8] at bf br ra rb
      rw [hz7] at bf br ra rb hz8
      rw [hz7]
      have hA8 := hA7.step hb8
      have bo8 := boxed_below bo hb8
      clear hw8 hb8 hA7 bo hz7
      generalize w6.heap.size = zo at *
      go_wp2_with fail
      have hF := HF.out
      split at hF
      case isFalse => cases hF
      rename_i hxl
      have HF2 := Aside0.mk hF
      have HXL := Aside0.mk hxl
      clear HF hF hxl he hw
      refine wp_rangeC (gf := 38) (lb := #[.pointer (some ⟨zo + 1, 0, none⟩), .pointer (some ⟨zo + 1 + 2, 0, none⟩), .pointer (some ⟨zo + 1 + 1, 0, none⟩), .pointer (some ⟨zo + 1 + 3, 0, none⟩)]) (n₀ := w.heap.size) (Bs := [zo + 1, zo + 1 + 1, zo + 1 + 2, zo + 1 + 3]) rfl (enters_of Try.func38 (by kernel_rfl) rfl)
        (lines_iter f hOne (zo + 1) (zo + 1 + 2) (zo + 1 + 1) (zo + 1 + 3) w.heap.size k [zo + 1, zo + 1 + 1, zo + 1 + 2, zo + 1 + 3] A0 A1 c0 c1 l0 l1 a2_0 a2_1 a3_0 a3_1 xs w8 bf br ra rb ⟨Kd.C_below HR0.out hA8.bel, hc0, block_of_C HR0.out z46 (by decide)⟩ ⟨Kd.C_below HR1.out hA8.bel, hc1, block_of_C HR1.out z46 (by decide)⟩ (by simp) (by simp) (by simp) (by simp) (by omega) (fun B hB => by simp at hB; omega) HXS.out)
        (by omega) (fun B hB => by simp at hB; omega) (fun _ => rfl)
        (fun C pre W => LinAt w a2_0 a2_1 a3_0 a3_1 W ∧ (∃ v, Boxed W zo 29 v ∧ Kd.R k43 43 W w.heap.size (fun k => C k ∧ zo + 4 < k) v (pre.map (·.1))) ∧ ∀ q ∈ pre, q.2 = 0)
        (fun c W => c = .ret ∧ ∃ e, (e ≠ 0 ∧ e = errO xs) ∧ Boxed W (w.heap.size + 2) 29 (.slice none 0 0) ∧ Boxed W (w.heap.size + 3) 30 (.int .i64 e) ∧ Below w.heap.size w W)
        ?cI ?cM ?cX (fun _ => False) (fun _ h => h.elim) ⟨hA8, ⟨_, bo8, Kd.R_nil _ _ _ _ _⟩, fun q hq => by cases hq⟩
        (fun x a1 W => ∃ b, zo + 5 ≤ b ∧ a1 = { tmps := ((Value.slice A0 l0.length c0) :: (Value.slice A1 l1.length c1) :: (Value.agg #[.int .i64 a2_0, .int .i64 a2_1]) :: (Value.agg #[.int .i64 a3_0, .int .i64 a3_1]) :: undef :: undef :: (Value.pointer (some ⟨w.heap.size, 0, none⟩)) :: (Value.pointer (some ⟨w.heap.size + 1, 0, none⟩)) :: (Value.pointer (some ⟨w.heap.size + 1 + 1, 0, none⟩)) :: (Value.pointer (some ⟨w.heap.size + 1 + 1 + 1, 0, none⟩)) :: v0 :: v1 :: (Value.int .i64 0) :: (Value.pointer (some ⟨zo, 0, none⟩)) :: (Value.pointer (some ⟨b, 0, none⟩)) :: (Value.int .i64 x.2) :: (Value.tuple #[v0, v1, .int .i64 0]) :: (Value.slice A1 l1.length c1) :: (Value.tuple #[v0, v1, .int .i64 0]) :: v0 :: v1 :: (Value.int .i64 0) :: (Value.slice A0 l0.length c0) :: (Value.slice A1 l1.length c1) :: (Value.bool true) :: (Value.bool false) :: (Value.bool false) :: (Value.int .i64 0) :: (Value.bool false) :: (Value.bool false) :: (Value.bool false) :: (Value.pointer (some ⟨w.heap.size + 1, 0, none⟩)) :: (Value.int .i64 a3_0) :: (Value.bool false) :: (Value.bool false) :: (Value.slice A0 l0.length c0) :: (Value.slice A1 l1.length c1) :: (Value.agg #[.int .i64 a2_0, .int .i64 a2_1]) :: (Value.agg #[.int .i64 a3_0, .int .i64 a3_1]) :: (Value.func (.func 38) #[] #[.pointer (some ⟨zo + 1, 0, none⟩), .pointer (some ⟨zo + 1 + 2, 0, none⟩), .pointer (some ⟨zo + 1 + 1, 0, none⟩), .pointer (some ⟨zo + 1 + 3, 0, none⟩)]) :: (Value.agg #[.int .i64 x.1.f0, .int .i64 x.1.f1, .bool x.1.f2]) :: (Value.int .i64 x.2) :: undef :: undef :: undef :: undef :: undef :: undef :: undef :: undef :: []).toArray, defers := [] } ∧ W.heap[b]? = some (.cells #[.int .i64 x.1.f0, .int .i64 x.1.f1, .bool x.1.f2] 43 (0, 0)))
        ?cA ?assign ?body ?done ?stop
      case cI => exact fun _ _ => (LinAt.bide (by omega)).and ((Bide.ex fun _ => (Bide.boxed _ _ _).and (Bide.row _ _ _ _ _ _)).and (Bide.const _))
      case cX => exact fun _ => (Bide.const _).and (Bide.ex fun _ => (Bide.const _).and ((Bide.boxed _ _ _).and ((Bide.boxed _ _ _).and (Bide.below (Nat.le_refl _) (by omega)))))
      case cA => exact fun x a => Bide.ex fun b => Bide.and (Bide.const _) (Bide.and (Bide.const _) (Bide.blk _ _ _))
      case cM =>
        rintro C s W p v ⟨hA6, ⟨u, hbo, hrow⟩, hpre⟩ hp hc
        exact ⟨hA6.far (by omega) v, ⟨u, blk_far hbo (by omega) v, Kd.R_mono (Kd.R_far hrow (fun k hk e => hc (e ▸ hk.1)) v) (fun _ hk => hk)⟩, hpre⟩
      case assign =>
        intro l x W K hz hK
        gi_wp2
        refine hK _ _ ?_ ⟨W.heap.size, by omega, rfl, ?_⟩
        · exact (Below.refl _ _).alloc (Nat.le_refl _) _
        · exact World.alloc_heap_new _ _
      case body =>
        rintro l C pre ⟨x, e⟩ rest _ W hx hzW ⟨hA6, ⟨v, hbo, hrow⟩, hpre⟩ ⟨b, hb, rfl, hblk⟩
        have HX := Aside0.mk hx
        have HP := Aside0.mk hpre
        have Hrow := Aside0.mk hrow
        have hzz : zo + 5 ≤ W.heap.size := by omega
        obtain ⟨l0c, l1c, l2c⟩ := cz3 (Aside0.mk hblk)
        clear bf br ra rb bo8 hA8 hx hpre hrow hblk HF2
        by_cases he : e = 0
        · have e1 : (e == 0) = true := beq_iff_eq.2 he
          have e2 : (e != 0) = false := bne_eq_false_iff_eq.2 he
          have HE := Aside0.mk he
          clear he
          have q0 := hbo.cell
          have zs : w.heap.size ≤ W.heap.size := hA6.bel.size
          have hlp : pre.length + 1 ≤ xs.length := by rw [HX.out]; simp
          have zl : ((pre.map (·.1)).length + 1) * 24 ≤ 140737488355328 := by rw [List.length_map]; have := HXL.out; omega
          obtain ⟨ys, hys⟩ : ∃ ys, pre.map (·.1) ++ [x] = ys := ⟨_, rfl⟩
          have Hys := Aside0.mk hys
          clear hys
          refine wpIn_block (wpIn_seq_k fun K hK => ?_)
          have HK := Lib.hid hK
          clear hK
          gi_wp2
          refine HK.out _ _ (round_region (fun _ _ h => h) (by rfl) ?_)
          clear HK
          go_wp2_with (first | (at_builtin; refine Aside0.out ?_))
          refine Aside0.mk ?_
          have hR0 : Kd.R k43 43 W w.heap.size (fun k => (C k ∧ zo + 4 < k) ∨ W.heap.size ≤ k) v (pre.map (·.1)) := Kd.R_mono Hrow.out fun k hk => .inl hk
          refine Kd.R_append k43 (w0 := w) (W := W) w.heap.size rfl (.tmp 45) (.tmp 47) 29 43 (.agg #[.int .i64 0, .int .i64 0, .bool false]) 24 rfl Try.underlying29 info43 rfl (by decide) (by omega) v (pre.map (·.1)) x [.int .i64 x.f0, .int .i64 x.f1, .bool x.f2] (fun k => (C k ∧ zo + 4 < k) ∨ W.heap.size ≤ k) (fun _ => False) rfl rfl (k43_mkM _ _ _ x) (fun _ hk => hk.elim) (fun k hk => .inr hk) ?hR0 ?hB ?hzs ?hzl ?hh
          case hB => exact hA6.bel
          case hR0 => exact hR0
          case hzs => exact zs
          case hzl => exact zl
          intro v1 w1 hown1 hb1 hg1 _
          rw [Hys.out] at hown1
          obtain ⟨A1_, c1_, rfl⟩ := Kd.R_slice hown1
          have bo1 : Boxed w1 zo 29 v := blk_appended hbo Hrow.out hg1 (.inl (by decide))
          have co1 := bo1.cell
          have fo1 := bo1.frozen
          go_wp2_with fail
          have hBs : ∀ B ∈ [zo + 1, zo + 1 + 1, zo + 1 + 2, zo + 1 + 3], ¬ (fun k => C k ∧ zo + 4 < k) B ∨ ∃ cs t, W.heap[B]? = some (.cells cs t (0, 0)) ∧ 43 ≠ t := fun B hB => .inl (fun h => by simp at hB; have := h.2; omega)
          have hT := (Tame.refl w.heap.size [zo + 1, zo + 1 + 1, zo + 1 + 2, zo + 1 + 3] W).appended Hrow.out hg1 (Nat.le_refl _) hBs
          have hsz : (w1.setCell ⟨zo, 0, none⟩ (.slice A1_ ys.length c1_)).heap.size = w1.heap.size := by simp [World.setCell]
          refine ⟨hT.setCell (p := ⟨zo, 0, none⟩) bo1 (by simp; omega) (by simp; omega) _, ⟨by rw [hsz]; exact hg1.size, fun k hk hz hc => (Below.heap_setCell w1 ⟨zo, 0, none⟩ _ k (by simp; omega)).trans (hg1.block k hk (fun e => hc (Hrow.out.1 k e.symm).1))⟩, fun k => C k ∨ W.heap.size ≤ k ∧ k < (w1.setCell ⟨zo, 0, none⟩ (.slice A1_ ys.length c1_)).heap.size, ⟨⟨blk_far (p := ⟨zo, 0, none⟩) (blk_appended hA6.xa Hrow.out hg1 (.inl (by decide))) (by simp; omega) _, blk_far (p := ⟨zo, 0, none⟩) (blk_appended hA6.xb Hrow.out hg1 (.inl (by decide))) (by simp; omega) _, blk_far (p := ⟨zo, 0, none⟩) (blk_appended hA6.r Hrow.out hg1 (.inl (by decide))) (by simp; omega) _, blk_far (p := ⟨zo, 0, none⟩) (blk_appended hA6.e Hrow.out hg1 (.inl (by decide))) (by simp; omega) _, hb1.setCell (p := ⟨zo, 0, none⟩) (by simp; omega) _⟩, ⟨_, bo1.set _, ?_⟩, ?_⟩, fun k hk => hk⟩
          · have hR := Kd.R_set hown1 bo1 (by decide) 0 (.slice A1_ ys.length c1_)
            rw [show (pre ++ [(x, e)]).map (·.1) = ys by rw [← Hys.out]; simp]
            refine Kd.R_mono (Kd.R_bound hR) fun k hk => ?_
            have h3 := hk.2.2.1
            rcases hk.1 with h | h
            · exact ⟨.inl h.1, h.2⟩
            · exact ⟨.inr ⟨h, h3⟩, by omega⟩
          · intro q hq
            rcases List.mem_append.1 hq with h1 | h1
            · exact HP.out q h1
            · rw [List.mem_singleton] at h1; rw [h1]; exact HE.out
        · have e1 : (e == 0) = false := beq_eq_false_iff_ne.2 he
          have e2 : (e != 0) = true := bne_iff_ne.2 he
          have HE := Aside0.mk he
          clear he
          have q1 := hA6.r.cell
          have q2 := hA6.r.frozen
          have q3 := hA6.e.cell
          have q4 := hA6.e.frozen
          gi_wp2
          have hl2 : e = errO xs := by rw [HX.out, errO_at (x := (x, e)) HE.out HP.out]
          refine ⟨((Tame.refl w.heap.size [zo + 1, zo + 1 + 1, zo + 1 + 2, zo + 1 + 3] W).setCell (p := ⟨w.heap.size + 2, 0, none⟩) hA6.r (by simp) (by simp; omega) _).setCell (p := ⟨w.heap.size + 3, 0, none⟩) (blk_far (p := ⟨w.heap.size + 2, 0, none⟩) hA6.e (by simp) _) (by simp) (by simp; omega) _, rfl, e, ⟨HE.out, hl2⟩, blk_far (p := ⟨w.heap.size + 3, 0, none⟩) (hA6.r.set _) (by simp) _, boxed_set (blk_far (p := ⟨w.heap.size + 2, 0, none⟩) hA6.e (by simp) _) _, (hA6.bel.setCell (p := ⟨w.heap.size + 2, 0, none⟩) (by simp) _).setCell (p := ⟨w.heap.size + 3, 0, none⟩) (by simp) _⟩
      case done =>
        rintro D C W hD ⟨hA6, ⟨v, hbo, hrow⟩, hpre⟩ hK
        have hzD : zo + 5 ≤ D := by omega
        clear bf br ra rb bo8 hA8
        have hf := HF2.out
        rw [if_pos (errO_zero hpre)] at hf
        simp only [Option.some.injEq, Prod.mk.injEq] at hf
        obtain ⟨rfl, rfl⟩ := hf
        obtain ⟨ys, hys⟩ : ∃ ys, xs.map (·.1) = ys := ⟨_, rfl⟩
        rw [hys] at hrow
        have HY := Aside0.mk hys
        clear hys
        obtain ⟨A1_, c1_, rfl⟩ := Kd.R_slice hrow
        have Hrow := Aside0.mk hrow
        have q0 := hbo.cell
        have q1 := hA6.r.cell
        have q2 := hA6.r.frozen
        have q3 := hA6.e.cell
        have q4 := hA6.e.frozen
        have k1 : W.heap[D]? = some (.deferred (some [])) := hK
        clear hrow hpre HF2 hK
        go_wp2_with fail
        have k2 := (Below.heap_setCell (W.setCell ⟨w.heap.size + 2, 0, none⟩ (.slice A1_ ys.length c1_)) ⟨w.heap.size + 3, 0, none⟩ (.int .i64 0) D (by simp; omega)).trans ((Below.heap_setCell W ⟨w.heap.size + 2, 0, none⟩ (.slice A1_ ys.length c1_) D (by simp; omega)).trans k1)
        have b1 : Boxed ((W.setCell ⟨w.heap.size + 2, 0, none⟩ (.slice A1_ ys.length c1_)).setCell ⟨w.heap.size + 3, 0, none⟩ (.int .i64 0)) (w.heap.size + 2) 29 (.slice A1_ ys.length c1_) := blk_far (p := ⟨w.heap.size + 3, 0, none⟩) (boxed_set hA6.r _) (by simp) _
        have b2 : Boxed ((W.setCell ⟨w.heap.size + 2, 0, none⟩ (.slice A1_ ys.length c1_)).setCell ⟨w.heap.size + 3, 0, none⟩ (.int .i64 0)) (w.heap.size + 3) 30 (.int .i64 0) := boxed_set (blk_far (p := ⟨w.heap.size + 2, 0, none⟩) hA6.e (by simp) _) _
        have r2 := Kd.R_set (Kd.R_set Hrow.out hA6.r (by decide) 0 (.slice A1_ ys.length c1_)) (blk_far (p := ⟨w.heap.size + 2, 0, none⟩) hA6.e (by simp) (.slice A1_ ys.length c1_)) (by decide) 0 (.int .i64 0)
        exact leave_mark k2 (leave_si rfl Try.underlying29 Try.underlying30 _ _ _ _ rfl rfl (Boxed.cell (blk_putObj _ b1 (by omega))) (Boxed.cell (blk_putObj _ b2 (by omega)))
          ⟨_, rfl, by rw [HY.out]; exact row_putObj _ (Kd.R_mono r2 (fun _ _ => trivial)) k2 rfl, below_putObj _ ((hA6.bel.setCell (p := ⟨w.heap.size + 2, 0, none⟩) (by simp) _).setCell (p := ⟨w.heap.size + 3, 0, none⟩) (by simp) _) (by omega)⟩)
      case stop =>
        rintro D c W hD ⟨rfl, e, ⟨he, hel⟩, hbr, hbe, hbl⟩ hK
        have hf := HF2.out
        rw [if_neg (fun h0 => he (hel.trans h0)), ← hel] at hf
        simp only [Option.some.injEq, Prod.mk.injEq] at hf
        obtain ⟨rfl, rfl⟩ := hf
        clear HF2 hel he bf br ra rb bo8 hA8
        go_wp2_with fail
        exact leave_mark hK (leave_si rfl Try.underlying29 Try.underlying30 _ _ _ _ rfl rfl (Boxed.cell (blk_putObj _ hbr (by omega))) (Boxed.cell (blk_putObj _ hbe (by omega))) ⟨_, rfl, Kd.R_nil _ _ _ _ _, below_putObj _ hbl (by omega)⟩)
  · have e1 : (e != 0) = true := bne_iff_ne.2 he
    replace HH2 := (if_neg he).symm.trans HH2
    simp only [Option.some.injEq, Prod.mk.injEq] at HH2
    obtain ⟨rfl, rfl⟩ := HH2
    go_wp2_with fail
    exact leave_si rfl Try.underlying29 Try.underlying30 _ _ _ _ rfl rfl (by go_simp) (by go_simp) ⟨_, rfl, Kd.R_nil _ _ _ _ _, (hA1.bel.setCell (p := ⟨w.heap.size + 2, 0, none⟩) (by simp) _).setCell (p := ⟨w.heap.size + 3, 0, none⟩) (by simp) _⟩
end
section
open Go.Proofs.Ytdmlnkgpjileaaa.Hand
theorem goesO_mono (k : Nat) (l1 : List S46) (b0 b1 : Int) : ∀ (n : Nat) (row : List S46) (at_ r0 r1 : Int), LeO (goesO (fill_One.f k) l1 b0 b1 n row at_ r0 r1) (goesO (fill_One.f (k + 1)) l1 b0 b1 (n + 1) row at_ r0 r1)
  | 0, _, _, _, _ => fun r h => by simp [goesO] at h
  | n + 1, row, at_, r0, r1 => by
    rw [goesO, goesO]
    refine LeO.bind (fill_One.mono _ _ _ _ _) fun t => LeO.ite (LeO.ite (LeO.bind (goesO_mono k l1 b0 b1 n _ _ _ _) fun ys => LeO.refl _) (LeO.refl _)) (LeO.refl _)
def first_Lines.f (k : Nat) (l0 l1 : List S46) (a2_0 a2_1 a3_0 a3_1 : Int) : Option (List S43 × Int) :=
  (fill_Ends.f k l1 0).bind fun E => if asL l0 l1 = true then (if E.2.2 = 0 then (if a3_0 < 0 then some ([], 2) else (goesO (fill_One.f k) l1 a3_0 a3_1 k l0 0 a2_0 a2_1).bind fun xs => if xs.length ≤ 1000000000000 then (if errO xs = 0 then some (xs.map (·.1), 0) else some ([], errO xs)) else none) else some ([], 2)) else some ([], 2)
theorem first_Lines.mono : ∀ a0 a1 a2_0 a2_1 a3_0 a3_1 k, LeO (first_Lines.f k a0 a1 a2_0 a2_1 a3_0 a3_1) (first_Lines.f (k + 1) a0 a1 a2_0 a2_1 a3_0 a3_1) := by
  intro a0 a1 a2_0 a2_1 a3_0 a3_1 k
  unfold first_Lines.f
  exact LeO.bind (fill_Ends.mono _ _ _) fun E => LeO.ite (LeO.ite (LeO.ite (LeO.refl _) (LeO.bind (goesO_mono _ _ _ _ _ _ _ _ _) fun xs => LeO.refl _)) (LeO.refl _)) (LeO.refl _)
theorem first_Lines.calls (k : Nat) (A0 : Option Addr) (c0 : Nat) (l0 : List S46) (A1 : Option Addr) (c1 : Nat) (l1 : List S46) (a2_0 a2_1 a3_0 a3_1 : Int) (r1 : List S43) (r2 : Int) (w : World) (hr0 : Kd.C k46 w A0 l0.length l0) (hc0 : l0.length ≤ c0) (hr1 : Kd.C k46 w A1 l1.length l1) (hc1 : l1.length ≤ c1) (h : first_Lines.f k l0 l1 a2_0 a2_1 a3_0 a3_1 = some (r1, r2)) :
    Calls Try.prog 9 #[.slice A0 l0.length c0, .slice A1 l1.length c1, .agg #[.int .i64 a2_0, .int .i64 a2_1], .agg #[.int .i64 a3_0, .int .i64 a3_1]] w fun e w' => ∃ v0_ : Value, e = .returned (.tuple #[v0_, .int .i64 r2]) ∧ Kd.R k43 43 w' w.heap.size (fun _ => True) v0_ r1 ∧ Below w.heap.size w w' :=
  first_Lines.core (fill_One.f k) (fun A c l a r0 r1 t1 t2 t3 t4 w h1 h2 h3 => fill_One.calls k A c l a r0 r1 t1 t2 t3 t4 w h1 h2 h3) k A0 c0 l0 A1 c1 l1 a2_0 a2_1 a3_0 a3_1 r1 r2 w hr0 hc0 hr1 hc1 h
end

end Go.Proofs.Ytdmlnkgpjileaaa.HFirstC
