-- Written by this claim's own program over the kit's print.
import Derived.Test.YtdmlnkgpjileaaaM3
import Derived.Test.YtdmlnkgpjileaaaM2
import Derived.StillTailTactics
import Derived.Laws.Externs
import Derived.BigFrameIn
import Derived.Lib.Hide
import Derived.Sort.LoopGhostIn
import Derived.BigQuiet
namespace Go.Proofs.Ytdmlnkgpjileaaa.HFirstC
open Go.RowKit Go.Proofs.YtdmlnkgpjileaaaW.PrintWords Go.Proofs.YtdmlnkgpjileaaaW.PrintLast Go.Proofs.YtdmlnkgpjileaaaW.PrintMore
attribute [local go_sem] max2_int min2_int max_two min_two max_three min_three max_four min_four   -- for this text's walks alone
set_option linter.unusedVariables false
set_option linter.unusedSimpArgs false

-- BY HAND: function 12
section
open Go.Proofs.Ytdmlnkgpjileaaa.Hand
/-- Are two cells the same but for how far they go? -/
def asAdv (x y : S46) : Bool := (x.f0 == y.f0) && ((x.f1 == y.f1) && ((x.f2 == y.f2) && ((x.f4 == y.f4) && (x.f5 == y.f5))))
/-- Are so many cells of two rows, from a place on? -/
def asN (l0 l1 : List S46) : Nat → Int → Bool
  | 0, _ => true
  | n + 1, i => asAdv (rd_T46 l0 i) (rd_T46 l1 i) && asN l0 l1 n (i + 1)
def asL (l0 l1 : List S46) : Bool := decide ((l0.length : Int) = l1.length) && asN l0 l1 l0.length 0
attribute [local go_sem high] eqA46 in
set_option maxRecDepth 100000 in
set_option maxHeartbeats 4000000 in
theorem alike1_any (x y : S46) (w : World) : Calls Try.prog 27 #[.agg #[.int .u8 x.f0, .int .i64 x.f1, .int .i64 x.f2, .int .i64 x.f3, .bool x.f4, .bool x.f5], .agg #[.int .u8 y.f0, .int .i64 y.f1, .int .i64 y.f2, .int .i64 y.f3, .bool y.f4, .bool y.f5]] w fun e w' => e = .returned (.bool (asAdv x y)) ∧ Below w.heap.size w w' := by
  have hu := Try.underlying46
  go_enter Try.func27, Try.ntmps27
  go_wp2
  go_ret
  exact ⟨rfl, below_alloc (below_alloc (Below.refl _ _) _) _⟩
set_option maxRecDepth 100000 in
set_option maxHeartbeats 4000000 in
theorem equal_any (gi : Nat) (f : S46 → S46 → Bool) (A0 A1 : Option Addr) (c0 c1 : Nat) (l0 l1 : List S46) (w : World) (heg : ∀ args w, (callFunc gi args).run Try.prog w = .ok (.enter gi args) w)
    (hf : ∀ (x y : S46) (W : World), Calls Try.prog gi #[.agg #[.int .u8 x.f0, .int .i64 x.f1, .int .i64 x.f2, .int .i64 x.f3, .bool x.f4, .bool x.f5], .agg #[.int .u8 y.f0, .int .i64 y.f1, .int .i64 y.f2, .int .i64 y.f3, .bool y.f4, .bool y.f5]] W fun e W' => e = .returned (.bool (asAdv x y)) ∧ Below W.heap.size W W')
    (hr0 : Kd.C k46 w A0 l0.length l0) (hr1 : Kd.C k46 w A1 l1.length l1) :
    Calls Try.prog 26 #[.slice A0 l0.length c0, .slice A1 l1.length c1, .func (.func gi) #[] #[]] w fun e w' => e = .returned (.bool (asL l0 l1)) ∧ Below w.heap.size w w' := by
  have hu := Try.underlying46
  have HF := Aside0.mk hf
  have HR0 := Aside0.mk hr0
  have HR1 := Aside0.mk hr1
  have hmx : l0.length ≤ 9223372036854775807 := hr0.2.1
  clear hf hr0 hr1
  generalize hR : asL l0 l1 = r
  unfold asL at hR
  by_cases hlen : (l0.length : Int) = l1.length
  · have d1 : ((l0.length : Int) == (l1.length : Int)) = true := beq_iff_eq.2 hlen
    have d1b : ((l0.length : Int) != (l1.length : Int)) = false := bne_eq_false_iff_eq.2 hlen
    rw [decide_eq_true hlen, Bool.true_and] at hR
    have HRR := Aside0.mk hR
    clear hR
    go_enter Try.func26, Try.ntmps26
    go_wp2_with fail
    go_loopg [17] (l0.length + 1) (fun kq v17 wr => ∃ (x : Int), v17 = .int .i64 x ∧ Aside0 (0 ≤ x ∧ x ≤ (l0.length : Int) ∧ x + (kq : Int) = (l0.length : Int) + 1) ∧ Aside0 (asN l0 l1 (l0.length - x.toNat) x = r) ∧ Aside0 (Below w.heap.size w wr))
    case atStart => exact ⟨0, rfl, ⟨by omega⟩, HRR, ⟨Below.refl _ _⟩⟩
    case round =>
      clear d1 d1b HRR
      obtain ⟨x, rfl, hin, hA, HB⟩ := hrel
      cases gk with
      | zero => have := hin.out; exfalso; omega
      | succ m =>
      by_cases hx : x < (l0.length : Int)
      · have d1 : decide (x < (l0.length : Int)) = true := decide_eq_true hx
        have z1 : 0 ≤ x := hin.out.1
        have z2 : x < (l1.length : Int) := by omega
        obtain ⟨ad0, e0, hx0, hx1, hx2, hx3, hx4, hx5⟩ := at_T46 (Kd.C_below HR0.out HB.out) x z1 hx
        cases e0
        have hAs := hA.out
        rw [show l0.length - x.toNat = (l0.length - (x + 1).toNat) + 1 by omega] at hAs
        simp only [asN] at hAs
        have e5 : IntKind.i64.wrap (x + 1) = x + 1 := IntWalk.i64_in _ (by omega)
        have HC := Aside0.mk (fun W => HF.out (rd_T46 l0 x) (rd_T46 l1 x) W)
        clear hA
        generalize rd_T46 l0 x = cx at hx0 hx1 hx2 hx3 hx4 hx5 HC hAs
        have HA := Aside0.mk hAs
        have HI := Aside0.mk (show x + 1 ≤ (l0.length : Int) by omega)
        clear hAs
        go_wp2_with (first
          | ((with_reducible refine gate_dst (N := 8) rfl ?_); (try (refine gate_guard (by rfl) ?_; dsimp only)); refine box_event ?hg (N := 8) ?hd (cs := #[.int .u8 0, .int .i64 0, .int .i64 0, .int .i64 0, .bool false, .bool false]) (t := 46) ?hr ?_; (case hd => rfl); (case hg => rfl); (case hr => first | (go_simp; done) | (go_simp; rfl)); intro gb8 hg w8 hbox hb; have BK8 := Aside0.mk (hbox); have GW8 := bge HB hg; have GE8 := bge HB hg; replace HB := bh HB hb; clear hb hbox hg)
          | ((with_reducible refine gate_store (t := 46) (p := 8) (v := .tmp 21) rfl ?_); refine Aside0.out ?_))
        refine Aside0.mk ?_
        refine store_row_event rfl 46 (.tmp 8) (.tmp 21) rfl rfl gb8 _ rfl rfl 46 _ BK8.out (by kernel_rfl) rfl (by simp [Value.oneCell']) ?_
        intro ws hs hk hb
        replace BK8 := Aside0.mk hs
        replace HB := Aside0.mk (hb _ _ GE8.out HB.out)
        clear hs hb hk hx0 hx1 hx2 hx3 hx4 hx5
        obtain ⟨ad1, e1, hy0, hy1, hy2, hy3, hy4, hy5⟩ := at_T46 (Kd.C_below HR1.out HB.out) x z1 z2
        cases e1
        generalize rd_T46 l1 x = cy at hy0 hy1 hy2 hy3 hy4 hy5 HC HA
        go_wp2_with (first
          | ((with_reducible refine gate_dst (N := 9) rfl ?_); (try (refine gate_guard (by rfl) ?_; dsimp only)); refine box_event ?hg (N := 9) ?hd (cs := #[.int .u8 0, .int .i64 0, .int .i64 0, .int .i64 0, .bool false, .bool false]) (t := 46) ?hr ?_; (case hd => rfl); (case hg => rfl); (case hr => first | (go_simp; done) | (go_simp; rfl)); intro gb9 hg w9 hbox hb; have BK9 := Aside0.mk (hbox); have GW9 := bge HB hg; have GE9 := bge HB hg; have NE9 := nbl BK8 hg; replace BK8 := Aside0.mk (blk_below BK8.out hb); replace HB := bh HB hb; clear hb hbox hg)
          | ((with_reducible refine gate_store (t := 46) (p := 9) (v := .tmp 25) rfl ?_); refine Aside0.out ?_))
        refine Aside0.mk ?_
        refine store_row_event rfl 46 (.tmp 9) (.tmp 25) rfl rfl gb9 _ rfl rfl 46 _ BK9.out (by kernel_rfl) rfl (by simp [Value.oneCell']) ?_
        intro ws hs hk hb
        replace BK9 := Aside0.mk hs
        replace BK8 := Aside0.mk (hk.blk BK8.out NE9.out (by simp))
        replace HB := Aside0.mk (hb _ _ GE9.out HB.out)
        clear hs hb hk hy0 hy1 hy2 hy3 hy4 hy5
        obtain ⟨hcz8_0, hcz8_1, hcz8_2, hcz8_3, hcz8_4, hcz8_5⟩ := cz6 BK8
        obtain ⟨hcz9_0, hcz9_1, hcz9_2, hcz9_3, hcz9_4, hcz9_5⟩ := cz6 BK9
        go_wp2_with fail
        refine (HC.out _).mono ?_
        rintro e_ w5 ⟨rfl, hb5⟩
        have HB5 := Aside0.mk (below_step HB.out hb5)
        have HA2 := HA.out
        clear hb5 HC hcz8_0 hcz8_1 hcz8_2 hcz8_3 hcz8_4 hcz8_5 hcz9_0 hcz9_1 hcz9_2 hcz9_3 hcz9_4 hcz9_5 HA
        cases hq : asAdv cx cy with
        | true =>
          rw [hq, Bool.true_and] at HA2
          have HA := Aside0.mk HA2
          clear HA2 hq
          go_wp2_with fail
          go_roundg m
          case measure => omega
          case rel => exact ⟨x + 1, rfl, ⟨by have := hin.out; have := HI.out; omega⟩, HA, HB5⟩
        | false =>
          rw [hq, Bool.false_and] at HA2
          subst HA2
          clear hq
          go_wp2_with fail
          go_ret
          exact ⟨rfl, HB5.out⟩
      · have d1 : decide (x < (l0.length : Int)) = false := decide_eq_false hx
        have hA2 := hA.out
        rw [show l0.length - x.toNat = 0 by omega] at hA2
        subst hA2
        clear hA
        go_wp2_with fail
        go_ret
        exact ⟨rfl, HB.out⟩
  · have d1 : ((l0.length : Int) == (l1.length : Int)) = false := beq_eq_false_iff_ne.2 hlen
    have d1b : ((l0.length : Int) != (l1.length : Int)) = true := bne_iff_ne.2 hlen
    rw [decide_eq_false hlen, Bool.false_and] at hR
    subst hR
    go_enter Try.func26, Try.ntmps26
    go_wp2_with fail
    go_ret
    exact ⟨rfl, Below.refl _ _⟩
end
section
open Go.Proofs.Ytdmlnkgpjileaaa.Hand
def first_Alike.f (l0 l1 : List S46) : Option Bool := some (asL l0 l1)
set_option maxRecDepth 100000 in
set_option maxHeartbeats 4000000 in
theorem first_Alike.calls (A0 : Option Addr) (c0 : Nat) (l0 : List S46) (A1 : Option Addr) (c1 : Nat) (l1 : List S46) (r : Bool) (w : World) (hr0 : Kd.C k46 w A0 l0.length l0) (hc0 : l0.length ≤ c0) (hr1 : Kd.C k46 w A1 l1.length l1) (hc1 : l1.length ≤ c1) (h : first_Alike.f l0 l1 = some r) :
    Calls Try.prog 12 #[.slice A0 l0.length c0, .slice A1 l1.length c1] w fun e w' => e = .returned (.bool r) ∧ Below w.heap.size w w' := by
  obtain rfl := Option.some.inj h
  go_enter Try.func12, Try.ntmps12
  go_wp2_with (first | (go_at_call 26; refine (equal_any 27 asAdv A0 A1 c0 c1 l0 l1 w (enters_of Try.func27 (by kernel_rfl) rfl) alike1_any hr0 hr1).mono ?_; rintro e w5 ⟨rfl, hb⟩))
  go_ret
  exact ⟨rfl, hb⟩
end

end Go.Proofs.Ytdmlnkgpjileaaa.HFirstC
