-- Written by this claim's own program over the kit's print.
import Derived.Test.YtdmlnkgpjileaaaM3
import Derived.Test.YtdmlnkgpjileaaaHFirstCx5
import Derived.Test.YtdmlnkgpjileaaaHFirstCx7
import Derived.Test.YtdmlnkgpjileaaaM2
import Derived.StillTailTactics
import Derived.Laws.Externs
import Derived.BigFrameIn
import Derived.Lib.Hide
import Derived.Sort.LoopGhostIn
import Derived.BigQuiet
namespace Go.Proofs.Ytdmlnkgpjileaaa.HFirstC
open Go.RowKit Go.Proofs.YtdmlnkgpjileaaaW.PrintWords Go.Proofs.YtdmlnkgpjileaaaW.PrintLast Go.Proofs.YtdmlnkgpjileaaaW.PrintMore
attribute [local go_sem] max2_int min2_int max_two min_two max_three min_three max_four min_four   -- for this text's walks alone
set_option linter.unusedVariables false
set_option linter.unusedSimpArgs false

-- BY HAND: function 21
section
open Go.Proofs.Ytdmlnkgpjileaaa.Hand
theorem fsoft_any (c : S46) (w : World) : Calls Try.prog 36 #[.agg #[.int .u8 c.f0, .int .i64 c.f1, .int .i64 c.f2, .int .i64 c.f3, .bool c.f4, .bool c.f5]] w fun e w' => e = .returned (.bool c.f4) ∧ Below w.heap.size w w' :=
  fill_soft.calls c.f0 c.f1 c.f2 c.f3 c.f4 c.f5 c.f4 w rfl
theorem femerg_any (c : S46) (w : World) : Calls Try.prog 37 #[.agg #[.int .u8 c.f0, .int .i64 c.f1, .int .i64 c.f2, .int .i64 c.f3, .bool c.f4, .bool c.f5]] w fun e w' => e = .returned (.bool c.f5) ∧ Below w.heap.size w w' :=
  fill_emergency.calls c.f0 c.f1 c.f2 c.f3 c.f4 c.f5 c.f5 w rfl
theorem ends_any (A : Option Addr) (n c : Nat) (fr te : Int) (fv : Value) (w : World) (hf : fv.oneCell' = true) : Calls Try.prog 35 #[.slice A n c, .int .i64 fr, .int .i64 te, fv] w fun e w' =>
    e = .returned (.func (.func 45) #[] #[.pointer (some ⟨w.heap.size + 1, 0, none⟩), .pointer (some ⟨w.heap.size + 2, 0, none⟩), .pointer (some ⟨w.heap.size + 3, 0, none⟩), .pointer (some ⟨w.heap.size, 0, none⟩)]) ∧
      (((w.alloc (.cells #[.slice A n c] 22)).alloc (.cells #[.int .i64 fr] 3)).alloc (.cells #[.int .i64 te] 3)).alloc (.cells #[fv] 76) = w' := by
  cases fv <;> first | (simp [Value.oneCell'] at hf; done) | skip
  all_goals
    go_enter Try.func35, Try.ntmps35
    go_wp2
    go_ret
    exact ⟨rfl, rfl⟩
def segL (l : List S46) (fr p : Int) : List S46 := (l.take p.toNat).drop fr.toNat
/-- The places that are ends of a kind, from one on. -/
def endsO (k : Nat) (l : List S46) (fr te : Int) (is : S46 → Bool) : Nat → Int → Option (List Int)
  | 0, _ => some []
  | n + 1, p => if p < te then (if is (rd_T46 l p) = true then (trim_Blank.f k (segL l fr p)).bind fun b => (endsO k l fr te is n (p + 1)).bind fun ys => some (if b = true then ys else p :: ys) else endsO k l fr te is n (p + 1)) else some []
theorem Kc_fill {W W' : World} {x : S46} {cs : List Value} (h : k46.K W x cs) : k46.K W' x cs := by rw [k46_open h]; exact k46_mk W' x
/-- A function value that tells whether a cell is so, in whatever world keeps what it has captured. -/
def EndFn (gi n₀ : Nat) (cap : Array Value) (Bs : List Nat) (p : S46 → Bool) (w : World) : Prop :=
  ∀ (c : S46) (W : World), KeepI n₀ Bs w W → Calls Try.prog gi (#[.agg #[.int .u8 c.f0, .int .i64 c.f1, .int .i64 c.f2, .int .i64 c.f3, .bool c.f4, .bool c.f5]] ++ cap) W fun e W' => e = .returned (.bool (p c)) ∧ Below W.heap.size W W'
set_option maxRecDepth 100000 in
set_option maxHeartbeats 4000000 in
theorem ends_iter (Bl Bfr Bto Bis n₀ gi : Nat) (cap : Array Value) (Bs : List Nat) (is : S46 → Bool) (A0 : Option Addr) (c0 : Nat) (l0 : List S46) (fr te : Int) (k : Nat) (xs : List Int) (w : World)
    (hl : Boxed w Bl 22 (.slice A0 l0.length c0)) (hfr : Boxed w Bfr 3 (.int .i64 fr)) (hto : Boxed w Bto 3 (.int .i64 te)) (his : Boxed w Bis 76 (.func (.func gi) #[] cap))
    (h0 : Kd.C k46 w A0 l0.length l0) (hc0 : l0.length ≤ c0) (hn0 : ∀ ad, A0 = some ad → 0 < l0.length → ad.block < n₀) (hlB : Bl ∈ Bs) (hfB : Bfr ∈ Bs) (htB : Bto ∈ Bs) (hiB : Bis ∈ Bs)
    (heg : ∀ args w, (callFunc gi args).run Try.prog w = .ok (.enter gi args) w) (hp : EndFn gi n₀ cap Bs is w) (hfr0 : 0 ≤ fr) (hfl : fr ≤ (l0.length : Int)) (hlen : l0.length ≤ 1000000000000) (htl : te ≤ (l0.length : Int))
    (hxs : endsO k l0 fr te is (l0.length + 1) (fr + 1) = some xs) :
    IterS Try.prog 45 #[.pointer (some ⟨Bfr, 0, none⟩), .pointer (some ⟨Bto, 0, none⟩), .pointer (some ⟨Bis, 0, none⟩), .pointer (some ⟨Bl, 0, none⟩)] (fun x : Int => #[.int .i64 x]) n₀ Bs xs w := by
  intro l J Jx W hW hJ hJx hY hJ0
  have q0 := Kd.C_below h0 hW
  have hmx : l0.length ≤ 9223372036854775807 := h0.2.1
  have rl := Aside0.mk (boxed_below hl hW)
  have rf := Aside0.mk (boxed_below hfr hW)
  have rt := Aside0.mk (boxed_below hto hW)
  have ri := Aside0.mk (boxed_below his hW)
  have HP := Aside0.mk hp
  have HXS := Aside0.mk hxs
  have cf0 := rf.out.cell
  have e0 : IntKind.i64.wrap (fr + 1) = fr + 1 := IntWalk.i64_in _ (by omega)
  have FR := Aside0.mk (show 0 ≤ fr ∧ fr ≤ (l0.length : Int) ∧ te ≤ (l0.length : Int) from ⟨hfr0, hfl, htl⟩)
  clear hxs hp hl hfr hto his hfr0 hfl htl
  show CallsIn Fence.wide 8 Try.prog 45 #[.func (.yield l) #[] #[], .pointer (some ⟨Bfr, 0, none⟩), .pointer (some ⟨Bto, 0, none⟩), .pointer (some ⟨Bis, 0, none⟩), .pointer (some ⟨Bl, 0, none⟩)] W _
  refine callsIn_of_wp Try.func45 rfl trivial ?_ rfl
  simp only [Try.ntmps45, List.size_toArray, List.length_cons, List.length_nil, Nat.reduceAdd, Nat.reduceSub, Array.replicate_succ, Array.replicate_zero, List.push_toArray, List.append_toArray, List.nil_append, List.cons_append]
  gi_wp2
  gi_loopg [6] (l0.length + 1) (fun kq v6 wr => ∃ (p : Int) (pre rest : List Int), v6 = .int .i64 p ∧ Aside0 (xs = pre ++ rest) ∧ Aside0 (endsO k l0 fr te is kq p = some rest) ∧ Aside0 (fr + 1 ≤ p ∧ te - p < kq) ∧ Aside0 (J pre wr) ∧ Aside0 (KeepI n₀ Bs W wr))
  case atStart => exact ⟨fr + 1, [], xs, rfl, ⟨rfl⟩, HXS, ⟨by have := FR.out; omega⟩, ⟨hJ0⟩, ⟨KeepI.refl _ _ _⟩⟩
  case round =>
    clear HXS hJ0 cf0 e0
    obtain ⟨p, pre, rest, rfl, hx, hr, hin, hJs, hK⟩ := hrel
    have ct := (boxed_keepI rt.out hK.out (.inr htB)).cell
    cases gk with
    | zero =>
      have d1 : decide (p < te) = false := decide_eq_false (by have := hin.out; omega)
      have hr2 := hr.out
      simp only [endsO, Option.some.injEq] at hr2
      gi_wp2
      go_end0
      exact ⟨⟨_, rfl⟩, .inl (by rw [hx.out, ← hr2, List.append_nil]; exact hJs.out)⟩
    | succ m =>
    have hr2 := hr.out
    simp only [endsO] at hr2
    clear hr
    by_cases hpt : p < te
    · have d1 : decide (p < te) = true := decide_eq_true hpt
      rw [if_pos hpt] at hr2
      have z1 : 0 ≤ p := by have := hin.out; have := FR.out; omega
      have z2 : p < (l0.length : Int) := by have := FR.out; omega
      obtain ⟨ad, rfl, hd0, hd1, hd2, hd3, hd4, hd5⟩ := at_T46 (C_keepI Kc_fill q0 hn0 hK.out) p z1 z2
      have cl := (boxed_keepI rl.out hK.out (.inr hlB)).cell
      have ci := (boxed_keepI ri.out hK.out (.inr hiB)).cell
      have HC := Aside0.mk (fun (W' : World) (hb : Below wr.heap.size wr W') => HP.out (rd_T46 l0 p) W' (((KeepI.of_below hW).trans hK.out).below hb))
      generalize hca : rd_T46 l0 p = c at hd0 hd1 hd2 hd3 hd4 hd5 HC hr2
      clear hca
      have HR2 := Aside0.mk hr2
      clear hr2 hpt
      gi_wp2
      refine phase_region (by kernel_rfl) ?_
      refine phase_in 0 5 (by kernel_rfl) ?_
      simp only [Nat.sub_zero, List.drop_zero, List.take_succ_cons, List.take_zero]
      repeat still_step
      refine wpStill_nil ?_
      refine phase_op rfl (by rfl) ?_
      refine ⟨fun _ _ => trivial, ?_⟩
      go_simp
      refine callsIn_wide.2 ((HC.out wr.drew (below_drew1 (Below.refl _ _))).mono ?_)
      rintro e_ w5 ⟨rfl, hb⟩
      dsimp only
      have hB5 : Below wr.heap.size wr w5 := below_step (below_drew1 (Below.refl _ _)) hb
      clear hd0 hd1 hd2 hd3 hd4 hd5 HC cl ci ct hb
      cases hq : is c with
      | false =>
        have hr2 := HR2.out
        rw [if_neg (by rw [hq]; decide)] at hr2
        have HR3 := Aside0.mk hr2
        clear hr2 hq HR2
        refine phase_in 6 19 (by kernel_rfl) ?_
        simp only [Nat.reduceSub, List.drop_succ_cons, List.drop_zero, List.take_succ_cons, List.take_zero]
        repeat still_step
        refine wpStill_nil ?_
        refine phase_op rfl (by rfl) ?_
        refine ⟨fun _ _ => trivial, ?_⟩
        go_simp
        refine phase_done 20 (by kernel_rfl) ?_
        have e5 : IntKind.i64.wrap (p + 1) = p + 1 := IntWalk.i64_in _ (by have := FR.out; omega)
        simp only [Exit.then]
        gi_wp2
        go_roundg m
        case measure => omega
        case rel => exact ⟨p + 1, pre, rest, rfl, hx, HR3, ⟨by have := hin.out; omega⟩, ⟨hJ _ _ _ hJs.out hB5⟩, ⟨hK.out.below hB5⟩⟩
      | true =>
        have hr2 := HR2.out
        rw [if_pos hq] at hr2
        obtain ⟨b, hb1, hr2⟩ := Option.bind_eq_some_iff.mp hr2
        obtain ⟨ys, hys, hr2⟩ := Option.bind_eq_some_iff.mp hr2
        have HRE := Aside0.mk (Option.some.inj hr2)
        have HYS := Aside0.mk hys
        clear hr2 hq HR2 hys
        have hK5 := hK.out.below hB5
        have cl := (boxed_keepI rl.out hK5 (.inr hlB)).cell
        have cf := (boxed_keepI rf.out hK5 (.inr hfB)).cell
        obtain ⟨i0, hi0, _, hsz, _⟩ := info_parts info46
        have hcut := cut_mid (P := Try.prog) 22 46 .i64 .i64 Try.underlying22 hi0 6 hsz (some ad) l0.length c0 fr p (by have := FR.out; omega) (by have := hin.out; omega) (by omega) hc0
        have hrw := Kd.C_mid (lo := fr.toNat) (hi := p.toNat) (c := c0) (C_keepI Kc_fill q0 hn0 hK5) (by have := hin.out; have := FR.out; omega) (by omega) hc0
        have hn : (segL l0 fr p).length = p.toNat - fr.toNat := by unfold segL; rw [List.length_drop, List.length_take]; omega
        obtain ⟨A1, hA1⟩ : ∃ Aq_, Aq_ = (if c0 = fr.toNat then some ad else (some ad : Option Addr).map (·.add (fr.toNat * 6))) := ⟨_, rfl⟩
        obtain ⟨c1, hc1⟩ : ∃ cq_, cq_ = c0 - fr.toNat := ⟨_, rfl⟩
        replace hrw : Kd.C k46 _ A1 (segL l0 fr p).length (segL l0 fr p) := (by rw [hA1]; exact hrw)
        rw [← hn, ← hA1, ← hc1] at hcut
        have hl1 : (segL l0 fr p).length ≤ c1 := by rw [hn, hc1]; omega
        generalize hy0 : segL l0 fr p = y at hrw hl1 hcut hb1
        have HRW := Aside0.mk hrw
        have HL1 := Aside0.mk hl1
        have HB1 := Aside0.mk hb1
        clear hrw hl1 hn hA1 hc1 hy0 hi0 hsz hb1
        refine phase_in 6 11 (by kernel_rfl) ?_
        simp only [Nat.reduceSub, List.drop_succ_cons, List.drop_zero, List.take_succ_cons, List.take_zero]
        repeat still_step
        refine wpStill_nil ?_
        refine phase_op rfl (by rfl) ?_
        refine ⟨fun _ _ => trivial, ?_⟩
        go_simp
        refine callsIn_wide.2 ((trim_Blank.calls k A1 c1 y b w5 HRW.out HL1.out HB1.out).mono ?_)
        rintro e_ w6 ⟨rfl, hb6⟩
        dsimp only
        have hB6 : Below wr.heap.size wr w6 := below_step hB5 hb6
        have hJ6 := hJ _ _ _ hJs.out hB6
        have hK6 := hK.out.below hB6
        clear cl cf hcut HRW HL1 HB1 hb6 hK5
        have e5 : IntKind.i64.wrap (p + 1) = p + 1 := IntWalk.i64_in _ (by have := FR.out; omega)
        cases b with
        | true =>
          have HR3 := HRE.out
          rw [if_pos rfl] at HR3
          refine phase_in 12 19 (by kernel_rfl) ?_
          simp only [Nat.reduceSub, List.drop_succ_cons, List.drop_zero, List.take_succ_cons, List.take_zero]
          repeat still_step
          refine wpStill_nil ?_
          refine phase_op rfl (by rfl) ?_
          refine ⟨fun _ _ => trivial, ?_⟩
          go_simp
          refine phase_done 20 (by kernel_rfl) ?_
          simp only [Exit.then]
          gi_wp2
          go_roundg m
          case measure => omega
          case rel => exact ⟨p + 1, pre, rest, rfl, hx, ⟨by rw [← HR3]; exact HYS.out⟩, ⟨by have := hin.out; omega⟩, ⟨hJ6⟩, ⟨hK6⟩⟩
        | false =>
          have HR3 := HRE.out
          rw [if_neg (by decide)] at HR3
          have hx2 := hx.out
          rw [← HR3] at hx2
          have HX2 := Aside0.mk hx2
          clear hx2 HR3 HRE
          refine phase_in 12 17 (by kernel_rfl) ?_
          simp only [Nat.reduceSub, List.drop_succ_cons, List.drop_zero, List.take_succ_cons, List.take_zero]
          repeat still_step
          refine wpStill_nil ?_
          refine phase_op rfl (by rfl) ?_
          refine ⟨fun _ _ => trivial, ?_⟩
          go_simp
          obtain ⟨fn, tmps, assign, body, hy, hR⟩ := hY pre p ys w6 HX2.out hJ6
          try dsimp only at hy
          rw [hy]
          clear hy
          go_simp
          refine hR.mono ?_
          rintro e_ W3 (⟨rfl, hJ3, hk3⟩ | ⟨rfl, hJx3⟩)
          · dsimp only
            refine phase_in 18 19 (by kernel_rfl) ?_
            simp only [Nat.reduceSub, List.drop_succ_cons, List.drop_zero, List.take_succ_cons, List.take_zero]
            repeat still_step
            refine wpStill_nil ?_
            refine phase_op rfl (by rfl) ?_
            refine ⟨fun _ _ => trivial, ?_⟩
            go_simp
            refine phase_done 20 (by kernel_rfl) ?_
            simp only [Exit.then]
            gi_wp2
            go_roundg m
            case measure => omega
            case rel => exact ⟨p + 1, pre ++ [p], ys, rfl, ⟨by rw [HX2.out]; simp⟩, HYS, ⟨by have := hin.out; omega⟩, ⟨hJ3⟩, ⟨hK6.trans hk3⟩⟩
          · dsimp only
            refine phase_in 18 19 (by kernel_rfl) ?_
            simp only [Nat.reduceSub, List.drop_succ_cons, List.drop_zero, List.take_succ_cons, List.take_zero]
            repeat still_step
            refine wpStill_nil ?_
            refine phase_op rfl (by rfl) ?_
            refine ⟨fun _ _ => trivial, ?_⟩
            go_simp
            refine phase_done 20 (by kernel_rfl) ?_
            simp only [Exit.then]
            gi_wp2
            refine bodyPost_ret (results_none rfl _ _ _) rfl ?_
            exact ⟨⟨_, rfl⟩, .inr hJx3⟩
    · have d1 : decide (p < te) = false := decide_eq_false hpt
      rw [if_neg hpt] at hr2
      simp only [Option.some.injEq] at hr2
      clear hpt
      gi_wp2
      go_end0
      exact ⟨⟨_, rfl⟩, .inl (by rw [hx.out, ← hr2, List.append_nil]; exact hJs.out)⟩
end
section
open Go.Proofs.Ytdmlnkgpjileaaa.Hand
theorem endsO_mono (k : Nat) (l : List S46) (fr te : Int) (is : S46 → Bool) : ∀ (n : Nat) (p : Int), LeO (endsO k l fr te is n p) (endsO (k + 1) l fr te is n p)
  | 0, _ => LeO.refl _
  | n + 1, p => by
    unfold endsO
    refine LeO.ite (LeO.ite (LeO.bind (trim_Blank.mono _ _) fun b => LeO.bind (endsO_mono k l fr te is n (p + 1)) fun ys => LeO.refl _) (endsO_mono k l fr te is n (p + 1))) (LeO.refl _)
theorem Bide.listI (w : World) (B : Nat) (hB : w.heap.size ≤ B) (pre : List Int) : Bide B (fun W => (∃ v, Boxed W w.heap.size 52 v ∧ Kd.R (Kd.int .i64) 3 W w.heap.size (fun k => w.heap.size < k) v pre) ∧ Below w.heap.size w W) :=
  Bide.and (Bide.ex fun v => Bide.and (Bide.boxed _ _ _) (Bide.row _ _ _ _ _ _)) (Bide.below (Nat.le_refl _) hB)
attribute [local go_sem] Oper.semAt_some
set_option maxRecDepth 100000 in
set_option maxHeartbeats 4000000 in
theorem list_any (gf : Nat) (lb : Array Value) (n₀ : Nat) (Bs : List Nat) (xs : List Int) (w : World) (eg : ∀ args w, (callFunc gf args).run Try.prog w = .ok (.enter gf args) w)
    (hit : ∀ W, Below w.heap.size w W → IterS Try.prog gf lb (fun x : Int => #[.int .i64 x]) n₀ Bs xs W) (hn : n₀ ≤ w.heap.size) (hBs : ∀ B ∈ Bs, B < w.heap.size) (hlen : xs.length ≤ 1000000000001) :
    Calls Try.prog 34 #[.func (.func gf) #[] lb] w fun e w' => ∃ v, e = .returned v ∧ Kd.R (Kd.int .i64) 3 w' w.heap.size (fun _ => True) v xs ∧ Below w.heap.size w w' := by
  have hB : Below w.heap.size w (w.alloc (.cells #[.slice none 0 0] 52)) := (Below.refl _ w).alloc (Nat.le_refl _) _
  have HI := Aside0.mk (hit _ hB)
  have bx := Boxed.new w 52 (.slice none 0 0)
  clear hit
  refine callsIn_wide.1 (callsIn_of_wp_marks (n := 9) Try.func34 rfl trivial (wpIn_wide.2 ?_) rfl)
  simp only [Try.ntmps34, List.size_toArray, List.length_cons, List.length_nil, Nat.reduceAdd, Nat.reduceSub, Array.replicate_succ, Array.replicate_zero, List.push_toArray, List.append_toArray, List.nil_append, List.cons_append]
  go_wp2_with fail
  refine wp_range (gf := gf) (lb := lb) (n₀ := n₀) (Bs := Bs) rfl eg HI.out (by simp; omega) (fun B hB => by have := hBs B hB; simp; omega) (fun _ => rfl)
    (fun pre W => (∃ v, Boxed W w.heap.size 52 v ∧ Kd.R (Kd.int .i64) 3 W w.heap.size (fun k => w.heap.size < k) v pre) ∧ Below w.heap.size w W) (fun _ _ => False)
    (fun pre => Bide.listI w _ (by simp) pre) (fun _ => Bide.never) ⟨⟨_, bx, Kd.R_nil _ _ _ _ _⟩, hB⟩ ?a1 ?assign ?body ?done (fun _ _ _ _ h _ => h.elim)
  case assign =>
    intro l x W K hK
    gi_wp2
    exact hK
  case body =>
    rintro l pre x rest W hx hzW ⟨⟨v, hbo, hrow⟩, hbel⟩
    simp only [World.size_alloc] at hzW
    have HX := Aside0.mk hx
    have hlp : pre.length + 1 ≤ xs.length := by rw [HX.out]; simp
    have zl : (pre.length + 1) * 8 ≤ 140737488355328 := by omega
    have zs : w.heap.size ≤ W.heap.size := by omega
    obtain ⟨ys, hys⟩ : ∃ ys, pre ++ [x] = ys := ⟨_, rfl⟩
    have Hys := Aside0.mk hys
    have Hrow := Aside0.mk hrow
    have Hbel := Aside0.mk hbel
    have q0 := hbo.cell
    clear hys hx hrow hbel
    refine wpIn_block ?_
    refine round_region (fun _ _ h => h) (by rfl) ?_
    go_wp2_with (first | (at_builtin; refine Aside0.out ?_))
    refine Aside0.mk ?_
    refine Kd.R_append (Kd.int .i64) (w0 := w) w.heap.size rfl (.tmp 7) (.tmp 9) 52 3 (.int .i64 0) 8 rfl Try.underlying52 info3 rfl (by decide) (by omega) v pre x [.int .i64 x] (fun k => w.heap.size < k) (fun _ => False) rfl rfl rfl (fun _ hk => hk.elim) (fun k hk => by omega) Hrow.out Hbel.out zs zl ?_
    intro v1 w1 hown1 hb1 hg1 _
    rw [Hys.out] at hown1
    obtain ⟨A1_, c1_, rfl⟩ := Kd.R_slice hown1
    have bo1 : Boxed w1 w.heap.size 52 v := blk_appended hbo Hrow.out hg1 (.inl (by decide))
    have co1 := bo1.cell
    have fo1 := bo1.frozen
    go_wp2_with fail
    have hBs2 : ∀ B ∈ Bs, ¬ (fun k => w.heap.size < k) B ∨ ∃ cs t, W.heap[B]? = some (.cells cs t (0, 0)) ∧ 3 ≠ t := fun B hB => .inl (fun h => by have := hBs B hB; have h2 : w.heap.size < B := h; omega)
    have hT := (Tame.refl n₀ Bs W).appended Hrow.out hg1 hn hBs2
    rw [Hys.out]
    refine ⟨hT.setCell (p := ⟨w.heap.size, 0, none⟩) bo1 hn (fun h => by have h2 : w.heap.size < w.heap.size := hBs _ h; omega) _, ⟨_, bo1.set _, ?_⟩, hb1.setCell (p := ⟨w.heap.size, 0, none⟩) (Nat.le_refl _) _⟩
    exact Kd.R_set hown1 bo1 (by decide) 0 (.slice A1_ ys.length c1_)
  case done =>
    rintro D W hD ⟨⟨v, hbo, hrow⟩, hbel⟩ hK
    have q0 := hbo.cell
    simp only [World.size_alloc] at hD
    go_wp2_with fail
    refine leave_mark hK (leave1 rfl ⟨_, rfl, ?_, below_putObj _ hbel (by omega)⟩)
    exact row_putObj _ (Kd.R_mono hrow (fun _ _ => trivial)) hK rfl
/-- The iterator that ends has made, in what lies behind the making. -/
theorem made_ends (gi : Nat) (is : S46 → Bool) (A0 : Option Addr) (c0 : Nat) (l0 : List S46) (fr te : Int) (k : Nat) (xs : List Int) (w : World) (h0 : Kd.C k46 w A0 l0.length l0) (hc0 : l0.length ≤ c0) (heg : ∀ args w, (callFunc gi args).run Try.prog w = .ok (.enter gi args) w)
    (hp : ∀ (c : S46) (W : World), Calls Try.prog gi #[.agg #[.int .u8 c.f0, .int .i64 c.f1, .int .i64 c.f2, .int .i64 c.f3, .bool c.f4, .bool c.f5]] W fun e W' => e = .returned (.bool (is c)) ∧ Below W.heap.size W W')
    (hfr0 : 0 ≤ fr) (hfl : fr ≤ (l0.length : Int)) (hlen : l0.length ≤ 1000000000000) (htl : te ≤ (l0.length : Int)) (hxs : endsO k l0 fr te is (l0.length + 1) (fr + 1) = some xs) (w2 : World)
    (hw2 : (((w.alloc (.cells #[.slice A0 l0.length c0] 22)).alloc (.cells #[.int .i64 fr] 3)).alloc (.cells #[.int .i64 te] 3)).alloc (.cells #[.func (.func gi) #[] #[]] 76) = w2) :
    ∀ W, Below w2.heap.size w2 W → IterS Try.prog 45 #[.pointer (some ⟨w.heap.size + 1, 0, none⟩), .pointer (some ⟨w.heap.size + 2, 0, none⟩), .pointer (some ⟨w.heap.size + 3, 0, none⟩), .pointer (some ⟨w.heap.size, 0, none⟩)] (fun x : Int => #[.int .i64 x]) w.heap.size [w.heap.size, w.heap.size + 1, w.heap.size + 2, w.heap.size + 3] xs W := by
  intro W hW
  have b1 := (((boxed_new w w.heap.size 22 (.slice A0 l0.length c0) rfl).alloc (.cells #[.int .i64 fr] 3)).alloc (.cells #[.int .i64 te] 3)).alloc (.cells #[.func (.func gi) #[] #[]] 76)
  have b2 := ((boxed_new (w.alloc (.cells #[.slice A0 l0.length c0] 22)) (w.heap.size + 1) 3 (.int .i64 fr) (by simp)).alloc (.cells #[.int .i64 te] 3)).alloc (.cells #[.func (.func gi) #[] #[]] 76)
  have b3 := (boxed_new ((w.alloc (.cells #[.slice A0 l0.length c0] 22)).alloc (.cells #[.int .i64 fr] 3)) (w.heap.size + 2) 3 (.int .i64 te) (by simp)).alloc (.cells #[.func (.func gi) #[] #[]] 76)
  have b4 := boxed_new (((w.alloc (.cells #[.slice A0 l0.length c0] 22)).alloc (.cells #[.int .i64 fr] 3)).alloc (.cells #[.int .i64 te] 3)) (w.heap.size + 3) 76 (.func (.func gi) #[] #[]) (by simp)
  have hb : Below w.heap.size w w2 := by rw [← hw2]; exact below_alloc (below_alloc (below_alloc (below_alloc (Below.refl _ _) _) _) _) _
  rw [hw2] at b1 b2 b3 b4
  exact ends_iter w.heap.size (w.heap.size + 1) (w.heap.size + 2) (w.heap.size + 3) w.heap.size gi #[] [w.heap.size, w.heap.size + 1, w.heap.size + 2, w.heap.size + 3] is A0 c0 l0 fr te k xs W (boxed_below b1 hW) (boxed_below b2 hW) (boxed_below b3 hW) (boxed_below b4 hW)
    (Kd.C_below (Kd.C_below h0 hb) hW) hc0 (block_of_C h0 z46 (by decide)) (by simp) (by simp) (by simp) (by simp) heg (fun c W' _ => by simpa using hp c W') hfr0 hfl hlen htl hxs
theorem endsO_len (k : Nat) (l : List S46) (fr te : Int) (is : S46 → Bool) : ∀ (n : Nat) (p : Int) (xs : List Int), endsO k l fr te is n p = some xs → xs.length ≤ n
  | 0, _, xs, h => by simp only [endsO, Option.some.injEq] at h; rw [← h]; exact Nat.le_refl _
  | n + 1, p, xs, h => by
    unfold endsO at h
    split at h
    · split at h
      · obtain ⟨b, _, h⟩ := Option.bind_eq_some_iff.mp h
        obtain ⟨ys, hy, h⟩ := Option.bind_eq_some_iff.mp h
        have := endsO_len k l fr te is n (p + 1) ys hy
        rw [← Option.some.inj h]
        split
        · omega
        · simp only [List.length_cons]; omega
      · have := endsO_len k l fr te is n (p + 1) xs h
        omega
    · simp only [Option.some.injEq] at h; rw [← h]; exact Nat.zero_le _
def fill_Ends.f (k : Nat) (l0 : List S46) (a1 : Int) : Option (List Int × List Int × Int) := (fill_may.f k l0 a1).bind fun m => if m = true then ((fill_last.f k l0 a1).bind fun t => if 0 ≤ a1 ∧ a1 ≤ (l0.length : Int) ∧ t.1 ≤ (l0.length : Int) ∧ l0.length ≤ 1000000000000 then ((endsO k l0 a1 t.1 (fun c => c.f4) (l0.length + 1) (a1 + 1)).bind fun xs => (endsO k l0 a1 t.1 (fun c => c.f5) (l0.length + 1) (a1 + 1)).bind fun ys => some (xs ++ [t.1], ys, 0)) else none) else some ([], [], 2)
theorem fill_Ends.mono : ∀ a0 a1 k, LeO (fill_Ends.f k a0 a1) (fill_Ends.f (k + 1) a0 a1) := by
  intro a0 a1 k
  unfold fill_Ends.f
  refine LeO.bind (fill_may.mono _ _ _) fun m => LeO.ite (LeO.bind (fill_last.mono _ _ _) fun t => LeO.ite (LeO.bind (endsO_mono _ _ _ _ _ _ _) fun xs => LeO.bind (endsO_mono _ _ _ _ _ _ _) fun ys => LeO.refl _) (LeO.refl _)) (LeO.refl _)
set_option maxRecDepth 100000 in
set_option maxHeartbeats 4000000 in
theorem fill_Ends.calls (k : Nat) (A0 : Option Addr) (c0 : Nat) (l0 : List S46) (a1 : Int) (r1 : List Int) (r2 : List Int) (r3 : Int) (w : World) (hr0 : Kd.C k46 w A0 l0.length l0) (hc0 : l0.length ≤ c0) (h : fill_Ends.f k l0 a1 = some (r1, r2, r3)) :
    Calls Try.prog 21 #[.slice A0 l0.length c0, .int .i64 a1] w fun e w' => ∃ v0_ v1_ : Value, e = .returned (.tuple #[v0_, v1_, .int .i64 r3]) ∧ Kd.R (Kd.int .i64) 3 w' w.heap.size (fun k_ => some k_ ≠ (v1_ : Value).ownBlock) v0_ r1 ∧ Kd.R (Kd.int .i64) 3 w' w.heap.size (fun k_ => some k_ ≠ (v0_ : Value).ownBlock) v1_ r2 ∧ Below w.heap.size w w' := by
  unfold fill_Ends.f at h
  obtain ⟨m, hm, h⟩ := Option.bind_eq_some_iff.mp h
  have HM := Aside0.mk hm
  clear hm
  cases m with
  | false =>
    replace h := (if_neg (by decide)).symm.trans h
    simp only [Option.some.injEq, Prod.mk.injEq] at h
    obtain ⟨rfl, rfl, rfl⟩ := h
    go_enter Try.func21, Try.ntmps21
    go_wp2_with (first | (go_at_call 33; refine (fill_may.calls k A0 c0 l0 a1 false w hr0 hc0 HM.out).mono ?_; rintro e w5 ⟨rfl, hb⟩))
    go_ret3
    exact ⟨_, _, rfl, Kd.R_nil _ _ _ _ _, Kd.R_nil _ _ _ _ _, hb⟩
  | true =>
    replace h := (if_pos rfl).symm.trans h
    obtain ⟨⟨te, fo⟩, ht, h⟩ := Option.bind_eq_some_iff.mp h
    split at h
    case isFalse => cases h
    rename_i hcond
    obtain ⟨h1, h2, h3, h4⟩ := hcond
    obtain ⟨xs, hxs, h⟩ := Option.bind_eq_some_iff.mp h
    obtain ⟨ys, hys, h⟩ := Option.bind_eq_some_iff.mp h
    simp only [Option.some.injEq, Prod.mk.injEq] at h
    obtain ⟨rfl, rfl, rfl⟩ := h
    have HT := Aside0.mk ht
    have HXS := Aside0.mk hxs
    have HYS := Aside0.mk hys
    have H1 := Aside0.mk h1
    have H2 := Aside0.mk h2
    have H3 := Aside0.mk h3
    have H4 := Aside0.mk h4
    clear ht hxs hys h1 h2 h3 h4
    go_enter Try.func21, Try.ntmps21
    go_wp2_with (first | (go_at_call 33; refine (fill_may.calls k A0 c0 l0 a1 true w hr0 hc0 HM.out).mono ?_; rintro e w5 ⟨rfl, hb⟩) | (go_at_call 32; refine Aside0.out ?_))
    refine Aside0.mk ?_
    clear h
    refine (fill_last.calls k A0 c0 l0 a1 te fo w5 (Kd.C_below hr0 hb) hc0 HT.out).mono ?_
    rintro e w6 ⟨rfl, ⟨m6, rfl⟩⟩
    have hB0 : Below w.heap.size w (w5.drewN m6) := pw_below_drewN hb _
    generalize w5.drewN m6 = W0 at hB0 ⊢
    have hC0 := Kd.C_below hr0 hB0
    have HB0 := Aside0.mk hB0
    clear hb
    go_wp2_with (first | (go_at_call 35; refine Aside0.out ?_))
    refine Aside0.mk ?_
    refine (ends_any A0 l0.length c0 a1 te (.func (.func 36) #[] #[]) W0 rfl).mono ?_
    rintro e_ W1 ⟨rfl, hW1⟩
    have HI := Aside0.mk (made_ends 36 (fun c => c.f4) A0 c0 l0 a1 te k xs W0 hC0 hc0 (enters_of Try.func36 (by kernel_rfl) rfl) fsoft_any H1.out H2.out H4.out H3.out HXS.out W1 hW1)
    have hb1 : Below W0.heap.size W0 W1 := by rw [← hW1]; exact below_alloc (below_alloc (below_alloc (below_alloc (Below.refl _ _) _) _) _) _
    have hz1 : W1.heap.size = W0.heap.size + 4 := by rw [← hW1]; simp
    have HZ1 := Aside0.mk hz1
    have HB1 := Aside0.mk (below_step HB0.out hb1)
    clear hW1 hz1 hb1 hB0
    go_wp2_with (first | (go_at_call 34; refine Aside0.out ?_))
    refine Aside0.mk ?_
    have hxl := endsO_len _ _ _ _ _ _ _ _ HXS.out
    refine (list_any 45 _ W0.heap.size [W0.heap.size, W0.heap.size + 1, W0.heap.size + 2, W0.heap.size + 3] xs W1 (enters_of Try.func45 (by kernel_rfl) rfl) HI.out (by rw [HZ1.out]; omega) (fun B hB => by simp at hB; rw [HZ1.out]; omega) (by have := H4.out; omega)).mono ?_
    rintro e_ W2 ⟨v2, rfl, hr2, hb2⟩
    have HB2 := Aside0.mk (below_step HB1.out hb2)
    have HR2 := Aside0.mk (Kd.R_lower hr2 HB1.out.size)
    clear hr2 hb2 HI
    go_wp2_with (first | (at_builtin; refine Aside0.out ?_))
    refine Aside0.mk ?_
    refine Kd.R_append (Kd.int .i64) (w0 := w) w.heap.size rfl (.tmp 23) (.tmp 25) 52 3 (.int .i64 0) 8 rfl Try.underlying52 info3 rfl (by decide) (by omega) v2 xs te [.int .i64 te] (fun _ => True) (fun _ => False) rfl rfl rfl (fun _ hk => hk.elim) (fun k hk => trivial) HR2.out HB2.out HB2.out.size (by have := H4.out; omega) ?_
    intro v3 W3 ho3 hb3 hg3 _
    have HB3 := Aside0.mk hb3
    have HR3 := Aside0.mk (Kd.R_bound ho3)
    have hC3 := Kd.C_below hr0 hb3
    clear ho3 hb3 hg3 hxl
    go_wp2_with (first | (go_at_call 35; refine Aside0.out ?_))
    refine Aside0.mk ?_
    refine (ends_any A0 l0.length c0 a1 te (.func (.func 37) #[] #[]) W3 rfl).mono ?_
    rintro e_ W4 ⟨rfl, hW4⟩
    have HI := Aside0.mk (made_ends 37 (fun c => c.f5) A0 c0 l0 a1 te k ys W3 hC3 hc0 (enters_of Try.func37 (by kernel_rfl) rfl) femerg_any H1.out H2.out H4.out H3.out HYS.out W4 hW4)
    have hb4 : Below W3.heap.size W3 W4 := by rw [← hW4]; exact below_alloc (below_alloc (below_alloc (below_alloc (Below.refl _ _) _) _) _) _
    have hz4 : W4.heap.size = W3.heap.size + 4 := by rw [← hW4]; simp
    have HZ4 := Aside0.mk hz4
    have HB4 := Aside0.mk hb4
    clear hW4 hz4 hb4
    go_wp2_with (first | (go_at_call 34; refine Aside0.out ?_))
    refine Aside0.mk ?_
    have hyl := endsO_len _ _ _ _ _ _ _ _ HYS.out
    refine (list_any 45 _ W3.heap.size [W3.heap.size, W3.heap.size + 1, W3.heap.size + 2, W3.heap.size + 3] ys W4 (enters_of Try.func45 (by kernel_rfl) rfl) HI.out (by rw [HZ4.out]; omega) (fun B hB => by simp at hB; rw [HZ4.out]; omega) (by have := H4.out; omega)).mono ?_
    rintro e_ W5 ⟨v5, rfl, hr5, hb5⟩
    go_wp2_with fail
    go_ret3
    have hb35 : Below W3.heap.size W3 W5 := below_step HB4.out hb5
    refine ⟨v3, v5, rfl, Kd.R_mono (Kd.R_below HR3.out hb35) (fun k hk => ?_), Kd.R_lower (Kd.R_mono (Kd.R_bound hr5) (fun k hk => ?_)) (by have := HB3.out.size; rw [HZ4.out]; omega), below_step HB3.out hb35⟩
    · exact fun e => by have h1 := Kd.R_base hr5 k e.symm; rw [HZ4.out] at h1; have h2 := hk.2.2.1; omega
    · exact fun e => by have h1 := Kd.R_lt HR3.out k e.symm; have h2 := hk.2.1; rw [HZ4.out] at h2; omega
end

end Go.Proofs.Ytdmlnkgpjileaaa.HFirstC
