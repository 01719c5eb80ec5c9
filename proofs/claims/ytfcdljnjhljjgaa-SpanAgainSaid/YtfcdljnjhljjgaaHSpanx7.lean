-- Written by this claim's own program over the kit's print.
import Derived.Test.YtfcdljnjhljjgaaHSpanx0
import Derived.Test.YtfcdljnjhljjgaaHSpanx2
import Derived.Test.YtfcdljnjhljjgaaHSpanx3
import Derived.Test.YtfcdljnjhljjgaaHSpanx5
import Derived.Test.YtfcdljnjhljjgaaHand3
import Derived.Test.YtfcdljnjhljjgaaHand4
import Derived.StillTailTactics
import Derived.Laws.Externs
import Derived.BigFrameIn
import Derived.Lib.Hide
import Derived.Test.YtfcdljnjhljjgaaHand9
import Derived.Sort.LoopGhostIn
import Derived.BigQuiet
import Derived.Deep.MidRow
import Derived.Deep.Cut
import Derived.Test.YtfcdljnjhljjgaaHSpanb
import Derived.Test.YtfcdljnjhljjgaaHandA
namespace Go.Proofs.Ytfcdljnjhljjgaa.HSpan
open Go.RowKit Go.Proofs.YtfcdljnjhljjgaaW.PrintWords Go.Proofs.YtfcdljnjhljjgaaW.PrintLast Go.Proofs.YtfcdljnjhljjgaaW.PrintMore
attribute [local go_sem] max2_int min2_int max_two min_two max_three min_three max_four min_four   -- for this text's walks alone
set_option linter.unusedVariables false
set_option linter.unusedSimpArgs false

-- BY HAND: function 10
section
open Go.Proofs.Ytfcdljnjhljjgaa.Hand
/-- Has a part numbers that are too great? -/
def farP (x : S35) : Bool := [x.f0.f0, x.f0.f1, x.f1].any farB
set_option maxRecDepth 100000 in
set_option maxHeartbeats 2000000 in
theorem line1_any (x : S35) (w : World) : Calls Try.prog 17 #[.agg #[.int .i64 x.f0.f0, .int .i64 x.f0.f1, .int .i64 x.f1, .int .u8 x.f2]] w fun e w' => e = .returned (.bool (farP x)) ∧ Below w.heap.size w w' := by
  go_enter Try.func17, Try.ntmps17
  go_wp2_with (first
    | ((with_reducible refine gate_dst (N := 11) rfl ?_); refine Kd.R_lit (Kd.int .i64) _ 2 ?hg (N := 11) ?hd (xs := [x.f0.f0, x.f0.f1, x.f1]) (inner := [.int .i64 x.f0.f0, .int .i64 x.f0.f1, .int .i64 x.f1]) (ok := fun _ => True) (okp := fun _ => True) ?hr ?hp (fun _ hk => hk) trivial (below_alloc (Below.refl _ _) _) (by simp) (by simp) ?_; (case hd => rfl); (case hg => rfl); (case hr => first | (go_simp; done) | (go_simp; rfl)); (case hp => exact Kd.reps_scalar [x.f0.f0, x.f0.f1, x.f1]); intro v11 w5 ho hb hg_ hnew_; have HO := Aside0.mk ho; have HB := Aside0.mk hb; clear ho hb hg_ hnew_; obtain ⟨A1, c1, hv, hcc, hrr⟩ := Kd.R_reads HO.out; subst hv; have HRR := Aside0.mk hrr; have HCC := Aside0.mk hcc; clear hrr hcc)
    | (go_at_call 15; refine (span_may.calls _ _ [x.f0.f0, x.f0.f1, x.f1] (!([x.f0.f0, x.f0.f1, x.f1].any farB)) _ HRR.out HCC.out rfl).mono ?_; rintro e w6 ⟨rfl, hb6⟩))
  go_ret
  exact ⟨by simp [farP], below_step HB.out hb6⟩
set_option maxRecDepth 100000 in
set_option maxHeartbeats 2000000 in
theorem idxP_any (gi : Nat) (p : S35 → Bool) (A : Option Addr) (c : Nat) (l : List S35) (w : World) (heg : ∀ args w, (callFunc gi args).run Try.prog w = .ok (.enter gi args) w)
    (hf : ∀ (x : S35) (W : World), Calls Try.prog gi #[.agg #[.int .i64 x.f0.f0, .int .i64 x.f0.f1, .int .i64 x.f1, .int .u8 x.f2]] W fun e W' => e = .returned (.bool (p x)) ∧ Below W.heap.size W W') (hr0 : Kd.C k35 w A l.length l) :
    Calls Try.prog 32 #[.slice A l.length c, .func (.func gi) #[] #[]] w fun e w' => e = .returned (.int .i64 (idxF p l 0)) ∧ Below w.heap.size w w' := by
  have HF := Aside0.mk hf
  have HR0 := Aside0.mk hr0
  have hmx : l.length ≤ 9223372036854775807 := hr0.2.1
  generalize hR : idxF p l 0 = r
  have HRR := Aside0.mk (show idxF p (l.drop (0 : Int).toNat) 0 = r from hR)
  clear hf hr0 hR
  go_enter Try.func32, Try.ntmps32
  go_wp2_with fail
  go_loopg [8] (l.length + 1) (fun kq v8 wr => ∃ (x : Int), v8 = .int .i64 x ∧ Aside0 (0 ≤ x ∧ x ≤ (l.length : Int) ∧ x + (kq : Int) = (l.length : Int) + 1) ∧ Aside0 (idxF p (l.drop x.toNat) x = r) ∧ Aside0 (Below w.heap.size w wr))
  case atStart => exact ⟨0, rfl, ⟨by omega⟩, HRR, ⟨Below.refl _ _⟩⟩
  case round =>
    clear HRR
    obtain ⟨x, rfl, hin, hA, HB⟩ := hrel
    cases gk with
    | zero => have := hin.out; exfalso; omega
    | succ m =>
    by_cases hx : x < (l.length : Int)
    · have d1 : decide (x < (l.length : Int)) = true := decide_eq_true hx
      have z1 : 0 ≤ x := hin.out.1
      obtain ⟨ad0, e0, hx0, hx1, hx2, hx3⟩ := at_T35 (Kd.C_below HR0.out HB.out) x z1 hx
      cases e0
      have hAs := hA.out
      have hd : l.drop x.toNat = rd_T35 l x :: l.drop (x + 1).toNat := by
        rw [show (x + 1).toNat = x.toNat + 1 by omega, List.drop_eq_getElem_cons (by omega)]
        unfold rd_T35
        rw [List.getD_eq_getElem?_getD, List.getElem?_eq_getElem (by omega)]
        rfl
      rw [hd] at hAs
      simp only [idxF] at hAs
      have e5 : IntKind.i64.wrap (x + 1) = x + 1 := IntWalk.i64_in _ (by omega)
      have HI := Aside0.mk (show x + 1 ≤ (l.length : Int) by omega)
      clear hA hd
      generalize rd_T35 l x = q at hx0 hx1 hx2 hx3 hAs
      have HA := Aside0.mk hAs
      clear hAs
      go_wp2_with fail
      refine (HF.out q _).mono ?_
      rintro e_ w5 ⟨rfl, hb5⟩
      have HB5 := Aside0.mk (below_step HB.out hb5)
      have HA2 := HA.out
      clear hb5 HF hx0 hx1 hx2 hx3 HA
      cases hq : p q with
      | true =>
        rw [if_pos hq] at HA2
        subst HA2
        clear hq
        go_wp2_with fail
        go_ret
        exact ⟨rfl, HB5.out⟩
      | false =>
        rw [if_neg (by rw [hq]; decide)] at HA2
        have HA := Aside0.mk HA2
        clear HA2 hq
        go_wp2_with fail
        go_roundg m
        case measure => omega
        case rel => exact ⟨x + 1, rfl, ⟨by have := hin.out; have := HI.out; omega⟩, HA, HB5⟩
    · have d1 : decide (x < (l.length : Int)) = false := decide_eq_false hx
      have hA2 := hA.out
      rw [List.drop_of_length_le (by omega)] at hA2
      subst hA2
      clear hA
      go_wp2_with fail
      go_ret
      exact ⟨rfl, HB.out⟩
set_option maxRecDepth 100000 in
set_option maxHeartbeats 2000000 in
theorem hasP_any (A : Option Addr) (c : Nat) (l : List S35) (w : World) (hr0 : Kd.C k35 w A l.length l) :
    Calls Try.prog 16 #[.slice A l.length c, .func (.func 17) #[] #[]] w fun e w' => e = .returned (.bool (l.any farP)) ∧ Below w.heap.size w w' := by
  have HC := Aside0.mk (idxP_any 17 farP A c l w (enters_of Try.func17 (by kernel_rfl) rfl) line1_any hr0)
  rw [← idx_any farP l 0 (Int.le_refl _)]
  generalize idxF farP l 0 = i at HC ⊢
  generalize l.length = n at HC ⊢
  clear hr0
  go_enter Try.func16, Try.ntmps16
  go_wp2_with (first | (go_at_call 32; refine HC.out.mono ?_; rintro e w5 ⟨rfl, hB5⟩))
  go_ret
  exact ⟨rfl, hB5⟩
-- HEAD
/-- What cmp.Compare tells of two numbers. -/
def cmpI (x y : Int) : Int := if x < y then -1 else if x > y then 1 else 0
theorem cmp_eq (x y : Int) : cmp_Compare_int64.f x y = some (cmpI x y) := by
  unfold cmp_Compare_int64.f cmp_isNaN_int64.f cmpI
  simp only [Option.bind_some, bne_self_eq_false, Bool.false_eq_true, if_false]
  split
  · rfl
  · split <;> rfl
def highP (x : S35) : Int := wrap64 (x.f0.f0 + x.f0.f1)
def cmpP (x y : S35) : Int := cmpI (highP y) (highP x)

set_option maxRecDepth 100000 in
set_option maxHeartbeats 4000000 in
theorem line2_any (x y : S35) (w : World) : Calls Try.prog 22 #[.agg (encP x).toArray, .agg (encP y).toArray] w fun e w' => e = .returned (.int .i64 (cmpP x y)) ∧ Below w.heap.size w w' := by
  show Calls Try.prog 22 #[.agg #[.int .i64 x.f0.f0, .int .i64 x.f0.f1, .int .i64 x.f1, .int .u8 x.f2], .agg #[.int .i64 y.f0.f0, .int .i64 y.f0.f1, .int .i64 y.f1, .int .u8 y.f2]] w _
  have B0 := Aside0.mk (show ((w.alloc (.cells #[.int .i64 x.f0.f0, .int .i64 x.f0.f1, .int .i64 x.f1, .int .u8 x.f2] 35 (0, 0))).alloc (.cells #[.int .i64 y.f0.f0, .int .i64 y.f0.f1, .int .i64 y.f1, .int .u8 y.f2] 35 (0, 0))).heap[w.heap.size]? = some (.cells #[.int .i64 x.f0.f0, .int .i64 x.f0.f1, .int .i64 x.f1, .int .u8 x.f2] 35 (0, 0)) from blk_alloc (blk_new w _) _)
  have B1 := Aside0.mk (show ((w.alloc (.cells #[.int .i64 x.f0.f0, .int .i64 x.f0.f1, .int .i64 x.f1, .int .u8 x.f2] 35 (0, 0))).alloc (.cells #[.int .i64 y.f0.f0, .int .i64 y.f0.f1, .int .i64 y.f1, .int .u8 y.f2] 35 (0, 0))).heap[w.heap.size + 1]? = some (.cells #[.int .i64 y.f0.f0, .int .i64 y.f0.f1, .int .i64 y.f1, .int .u8 y.f2] 35 (0, 0)) from by have := blk_new (w.alloc (.cells #[.int .i64 x.f0.f0, .int .i64 x.f0.f1, .int .i64 x.f1, .int .u8 x.f2] 35 (0, 0))) (.cells #[.int .i64 y.f0.f0, .int .i64 y.f0.f1, .int .i64 y.f1, .int .u8 y.f2] 35 (0, 0)); rw [World.size_alloc] at this; exact this)
  have HB := Aside0.mk (show Below w.heap.size w ((w.alloc (.cells #[.int .i64 x.f0.f0, .int .i64 x.f0.f1, .int .i64 x.f1, .int .u8 x.f2] 35 (0, 0))).alloc (.cells #[.int .i64 y.f0.f0, .int .i64 y.f0.f1, .int .i64 y.f1, .int .u8 y.f2] 35 (0, 0))) from below_alloc (below_alloc (Below.refl _ _) _) _)
  go_enter Try.func22, Try.ntmps22
  go_wp2_with fail
  replace B0 := Aside0.mk (blk_drew B0.out)
  replace B1 := Aside0.mk (blk_drew B1.out)
  replace HB := Aside0.mk (below_drew1 HB.out)
  refine start_ (n := 8) (S := fun w' => w'.cell? ⟨w.heap.size, 0, none⟩ = some (.int .i64 x.f0.f0) ∧ w'.cell? ⟨w.heap.size, 1, none⟩ = some (.int .i64 x.f0.f1) ∧ w'.cell? ⟨w.heap.size + 1, 0, none⟩ = some (.int .i64 y.f0.f0) ∧ w'.cell? ⟨w.heap.size + 1, 1, none⟩ = some (.int .i64 y.f0.f1)) (ds := []) #[false, false, false, false, false, false, false, false] (by kernel_rfl) rfl rfl ⟨blk_cell B0.out 0, blk_cell B0.out 1, blk_cell B1.out 0, blk_cell B1.out 1⟩ (fun hHeld => ?_)
  generalize ((w.alloc (.cells #[.int .i64 x.f0.f0, .int .i64 x.f0.f1, .int .i64 x.f1, .int .u8 x.f2] 35 (0, 0))).alloc (.cells #[.int .i64 y.f0.f0, .int .i64 y.f0.f1, .int .i64 y.f1, .int .u8 y.f2] 35 (0, 0))).drew = w8 at B0 B1 HB hHeld ⊢
  refine pure_ (i := 0) (N := some 5) (v := ?_) (a' := ?_) #[true, false, false, false, false, false, false, false] rfl rfl (by kernel_rfl) (fun _ _ _ h => h) (Or.inl ⟨by rfl, ?_⟩) ?_ ?_
  rotate_left; (focus intro w'; go_simp; with_reducible rfl); rotate_left; (focus simp only [Act.put, List.setIfInBounds_toArray, List.set_cons_zero, List.set_cons_succ, i64_w, i32_w]; rfl)
  refine pure_ (i := 3) (N := some 8) (v := ?_) (a' := ?_) #[true, false, false, true, false, false, false, false] rfl rfl (by kernel_rfl) (fun _ _ _ h => h) (Or.inl ⟨by rfl, ?_⟩) ?_ ?_
  rotate_left; (focus intro w'; go_simp; with_reducible rfl); rotate_left; (focus simp only [Act.put, List.setIfInBounds_toArray, List.set_cons_zero, List.set_cons_succ, i64_w, i32_w]; rfl)
  refine take_ (i := 1) (N := some 6) (v := ?_) (a' := ?_) #[true, true, false, true, false, false, false, false] rfl rfl (by kernel_rfl) (fun _ _ _ h => h) (Or.inl ⟨by rfl, ?_⟩) hHeld ?_ ?_
  rotate_left; (focus rintro w' ⟨s0, s1, s2, s3⟩; go_simp; with_reducible rfl); rotate_left; (focus simp only [Act.put, List.setIfInBounds_toArray, List.set_cons_zero, List.set_cons_succ, i64_w, i32_w]; rfl)
  refine take_ (i := 4) (N := some 9) (v := ?_) (a' := ?_) #[true, true, false, true, true, false, false, false] rfl rfl (by kernel_rfl) (fun _ _ _ h => h) (Or.inl ⟨by rfl, ?_⟩) hHeld ?_ ?_
  rotate_left; (focus rintro w' ⟨s0, s1, s2, s3⟩; go_simp; with_reducible rfl); rotate_left; (focus simp only [Act.put, List.setIfInBounds_toArray, List.set_cons_zero, List.set_cons_succ, i64_w, i32_w]; rfl)
  refine one_ (i := 2) (N := some 7) #[true, true, true, true, true, false, false, false] rfl rfl (by kernel_rfl) (by decide) (fun K hK => ?_)
  refine goes_ Try.func24 (by kernel_rfl) rfl #[.agg #[.int .i64 y.f0.f0, .int .i64 y.f0.f1]] (by rfl) rfl rfl (by (try simp only [List.map_toArray, List.map_cons, List.map_nil]); rfl) ?_
  refine (span_high.calls y.f0.f0 y.f0.f1 (highP y) _ rfl).mono ?_
  rintro e_ w9 ⟨rfl, hb9⟩
  refine ⟨_, rfl, ?_⟩
  replace HB := Aside0.mk (below_step HB.out hb9)
  replace B0 := Aside0.mk (blk_below B0.out hb9)
  replace B1 := Aside0.mk (blk_below B1.out hb9)
  clear hb9
  refine hK.out _ _ ⟨blk_cell B0.out 0, blk_cell B0.out 1, blk_cell B1.out 0, blk_cell B1.out 1⟩ (fun hHeld => ?_)
  clear hK K
  refine norm_ (a' := ?_) ?_ ?_
  rotate_left; (focus show Act.put _ (some 7) _ = _; simp only [Act.put, List.setIfInBounds_toArray, List.set_cons_zero, List.set_cons_succ, i64_w, i32_w]; rfl)
  refine one_ (i := 5) (N := some 10) #[true, true, true, true, true, true, false, false] rfl rfl (by kernel_rfl) (by decide) (fun K hK => ?_)
  refine goes_ Try.func24 (by kernel_rfl) rfl #[.agg #[.int .i64 x.f0.f0, .int .i64 x.f0.f1]] (by rfl) rfl rfl (by (try simp only [List.map_toArray, List.map_cons, List.map_nil]); rfl) ?_
  refine (span_high.calls x.f0.f0 x.f0.f1 (highP x) _ rfl).mono ?_
  rintro e_ w9 ⟨rfl, hb9⟩
  refine ⟨_, rfl, ?_⟩
  replace HB := Aside0.mk (below_step HB.out hb9)
  replace B0 := Aside0.mk (blk_below B0.out hb9)
  replace B1 := Aside0.mk (blk_below B1.out hb9)
  clear hb9
  refine hK.out _ _ ⟨blk_cell B0.out 0, blk_cell B0.out 1, blk_cell B1.out 0, blk_cell B1.out 1⟩ (fun hHeld => ?_)
  clear hK K
  refine norm_ (a' := ?_) ?_ ?_
  rotate_left; (focus show Act.put _ (some 10) _ = _; simp only [Act.put, List.setIfInBounds_toArray, List.set_cons_zero, List.set_cons_succ, i64_w, i32_w]; rfl)
  refine one_ (i := 6) (N := some 11) #[true, true, true, true, true, true, true, false] rfl rfl (by kernel_rfl) (by decide) (fun K hK => ?_)
  refine goes_ Try.func23 (by kernel_rfl) rfl #[.int .i64 (highP y), .int .i64 (highP x)] (by rfl) rfl rfl (by (try simp only [List.map_toArray, List.map_cons, List.map_nil]); rfl) ?_
  refine (cmp_Compare_int64.calls (highP y) (highP x) (cmpP x y) _ (cmp_eq _ _)).mono ?_
  rintro e_ w9 ⟨rfl, hd9⟩
  have hb9 := Drawn0.below hd9
  clear hd9
  refine ⟨_, rfl, ?_⟩
  replace HB := Aside0.mk (below_step HB.out hb9)
  replace B0 := Aside0.mk (blk_below B0.out hb9)
  replace B1 := Aside0.mk (blk_below B1.out hb9)
  clear hb9
  refine hK.out _ _ ⟨blk_cell B0.out 0, blk_cell B0.out 1, blk_cell B1.out 0, blk_cell B1.out 1⟩ (fun hHeld => ?_)
  clear hK K
  refine norm_ (a' := ?_) ?_ ?_
  rotate_left; (focus show Act.put _ (some 11) _ = _; simp only [Act.put, List.setIfInBounds_toArray, List.set_cons_zero, List.set_cons_succ, i64_w, i32_w]; rfl)
  refine pure_ (i := 7) (N := some 4) (v := ?_) (a' := ?_) #[true, true, true, true, true, true, true, true] rfl rfl (by kernel_rfl) (fun _ _ _ h => h) (Or.inl ⟨by rfl, ?_⟩) ?_ ?_
  rotate_left; (focus intro w'; go_simp; with_reducible rfl); rotate_left; (focus simp only [Act.put, List.setIfInBounds_toArray, List.set_cons_zero, List.set_cons_succ, i64_w, i32_w]; rfl)
  refine done_ (by kernel_rfl) ?_
  try simp only [Exit.then]
  clear hHeld
  go_wp2_with fail
  go_ret
  exact ⟨rfl, HB.out⟩
-- What changes nothing but one block, and makes what it likes.
structure But (b : Nat) (w w' : World) : Prop where
  os : w'.os = w.os
  tape : w'.tape = w.tape
  output : w'.output = w.output
  size : w.heap.size ≤ w'.heap.size
  block : ∀ k, k < w.heap.size → k ≠ b → w'.heap[k]? = w.heap[k]?
theorem But.refl (b : Nat) (w : World) : But b w w := ⟨rfl, rfl, rfl, Nat.le_refl _, fun _ _ _ => rfl⟩
theorem But.trans {b : Nat} {u v w : World} (h : But b u v) (k : But b v w) : But b u w := ⟨k.os.trans h.os, k.tape.trans h.tape, k.output.trans h.output, Nat.le_trans h.size k.size, fun i hi hb => (k.block i (Nat.lt_of_lt_of_le hi h.size) hb).trans (h.block i hi hb)⟩
theorem But.of {b : Nat} {w w' : World} (h : Below w.heap.size w w') : But b w w' := ⟨h.os, h.tape, h.output, h.size, fun k hk _ => h.block k hk⟩
theorem But.set {b : Nat} {u w : World} (h : But b u w) (j : Nat) (v : Value) : But b u (w.setCell ⟨b, j, none⟩ v) :=
  ⟨h.os, h.tape, h.output, by simpa using h.size, fun k hk hb => (Below.heap_setCell w ⟨b, j, none⟩ v k hb).trans (h.block k hk hb)⟩
theorem But.below {B b : Nat} {u v w : World} (hB : B ≤ b) (h : Below B u v) (hs : B ≤ v.heap.size) (k : But b v w) : Below B u w :=
  ⟨k.os.trans h.os, k.tape.trans h.tape, k.output.trans h.output, Nat.le_trans h.size k.size, fun i hi => (k.block i (Nat.lt_of_lt_of_le hi hs) (by omega)).trans (h.block i hi)⟩
def hasF (x : S35) (t0 t1 : Int) : Int × Int := (mx t0 (wrap64 (x.f1 + x.f0.f0)), mx t1 (wrap64 (x.f0.f1 - x.f1)))
set_option maxRecDepth 100000 in
set_option maxHeartbeats 4000000 in
theorem has_any (b : Nat) (x : S35) (t0 t1 : Int) (w : World) (hv : w.heap[b]? = some (.cells #[.int .i64 (t0), .int .i64 (t1)] 47 (0, 0))) :
    Calls Try.prog 19 #[.pointer (some ⟨b, 0, none⟩), .agg #[.int .i64 x.f0.f0, .int .i64 x.f0.f1, .int .i64 x.f1, .int .u8 x.f2]] w fun e w' => e = .returned (.tuple #[]) ∧ w'.heap[b]? = some (.cells #[.int .i64 ((hasF x t0 t1).1), .int .i64 ((hasF x t0 t1).2)] 47 (0, 0)) ∧ But b w w' := by
  have hlt := blk_lt hv
  have BV := Aside0.mk (show (w.alloc (.cells #[.int .i64 x.f0.f0, .int .i64 x.f0.f1, .int .i64 x.f1, .int .u8 x.f2] 35 (0, 0))).heap[b]? = some (.cells #[.int .i64 (t0), .int .i64 (t1)] 47 (0, 0)) from blk_alloc hv _)
  have BX := Aside0.mk (show (w.alloc (.cells #[.int .i64 x.f0.f0, .int .i64 x.f0.f1, .int .i64 x.f1, .int .u8 x.f2] 35 (0, 0))).heap[w.heap.size]? = some (.cells #[.int .i64 x.f0.f0, .int .i64 x.f0.f1, .int .i64 x.f1, .int .u8 x.f2] 35 (0, 0)) from blk_new w _)
  have HB : Aside0 (But b w (w.alloc (.cells #[.int .i64 x.f0.f0, .int .i64 x.f0.f1, .int .i64 x.f1, .int .u8 x.f2] 35 (0, 0)))) := ⟨But.of (below_alloc (Below.refl _ _) _)⟩
  have HLT := Aside0.mk hlt
  obtain ⟨m0, hm0⟩ : ∃ v, wrap64 (x.f1 + x.f0.f0) = v := ⟨_, rfl⟩
  obtain ⟨m1, hm1⟩ : ∃ v, wrap64 (x.f0.f1 - x.f1) = v := ⟨_, rfl⟩
  obtain ⟨u0, hu0⟩ : ∃ v, (if t0 < m0 then m0 else t0) = v := ⟨_, rfl⟩
  obtain ⟨u1, hu1⟩ : ∃ v, (if t1 < m1 then m1 else t1) = v := ⟨_, rfl⟩
  have HU := Aside0.mk (show hasF x t0 t1 = (u0, u1) from by unfold hasF mx; rw [hm0, hm1, hu0, hu1])
  rw [HU.out]
  clear hv hlt
  go_enter Try.func19, Try.ntmps19
  go_wp2_with fail
  replace BV := Aside0.mk (blk_drew BV.out)
  replace BX := Aside0.mk (blk_drew BX.out)
  replace HB := Aside0.mk (HB.out.trans (But.of (below_drew1 (Below.refl _ _))))
  refine start_ (n := 34) (S := fun w' => w'.cell? ⟨b, 1, none⟩ = some (.int .i64 t1) ∧ w'.cell? ⟨w.heap.size, 0, none⟩ = some (.int .i64 x.f0.f0) ∧ w'.cell? ⟨w.heap.size, 1, none⟩ = some (.int .i64 x.f0.f1) ∧ w'.cell? ⟨w.heap.size, 2, none⟩ = some (.int .i64 x.f1)) (ds := [33]) #[false, false, false, false, false, false, false, false, false, false, false, false, false, false, false, false, false, false, false, false, false, false, false, false, false, false, false, false, false, false, false, false, false, false] (by kernel_rfl) rfl rfl ⟨blk_cell BV.out 1, blk_cell BX.out 0, blk_cell BX.out 1, blk_cell BX.out 2⟩ (fun hHeld => ?_)
  generalize (w.alloc (.cells #[.int .i64 x.f0.f0, .int .i64 x.f0.f1, .int .i64 x.f1, .int .u8 x.f2] 35 (0, 0))).drew = w8 at BV BX HB hHeld ⊢
  refine pure_ (i := 0) (N := some 4) (v := ?_) (a' := ?_) #[true, false, false, false, false, false, false, false, false, false, false, false, false, false, false, false, false, false, false, false, false, false, false, false, false, false, false, false, false, false, false, false, false, false] rfl rfl (by kernel_rfl) (fun _ _ _ h => h) (Or.inl ⟨by rfl, ?_⟩) ?_ ?_
  rotate_left; (focus intro w'; go_simp; with_reducible rfl); rotate_left; (focus simp only [Act.put, List.setIfInBounds_toArray, List.set_cons_zero, List.set_cons_succ, i64_w, i32_w]; rfl)
  refine pure_ (i := 1) (N := some 5) (v := ?_) (a' := ?_) #[true, true, false, false, false, false, false, false, false, false, false, false, false, false, false, false, false, false, false, false, false, false, false, false, false, false, false, false, false, false, false, false, false, false] rfl rfl (by kernel_rfl) (fun _ _ _ h => h) (Or.inl ⟨by rfl, ?_⟩) ?_ ?_
  rotate_left; (focus intro w'; go_simp; with_reducible rfl); rotate_left; (focus simp only [Act.put, List.setIfInBounds_toArray, List.set_cons_zero, List.set_cons_succ, i64_w, i32_w]; rfl)
  refine pure_ (i := 2) (N := some 6) (v := ?_) (a' := ?_) #[true, true, true, false, false, false, false, false, false, false, false, false, false, false, false, false, false, false, false, false, false, false, false, false, false, false, false, false, false, false, false, false, false, false] rfl rfl (by kernel_rfl) (fun _ _ _ h => h) (Or.inl ⟨by rfl, ?_⟩) ?_ ?_
  rotate_left; (focus intro w'; go_simp; with_reducible rfl); rotate_left; (focus simp only [Act.put, List.setIfInBounds_toArray, List.set_cons_zero, List.set_cons_succ, i64_w, i32_w]; rfl)
  refine pure_ (i := 3) (N := some 7) (v := ?_) (a' := ?_) #[true, true, true, true, false, false, false, false, false, false, false, false, false, false, false, false, false, false, false, false, false, false, false, false, false, false, false, false, false, false, false, false, false, false] rfl rfl (by kernel_rfl) (fun _ _ _ h => h) (Or.inl ⟨by rfl, ?_⟩) ?_ ?_
  rotate_left; (focus intro w'; go_simp; with_reducible rfl); rotate_left; (focus simp only [Act.put, List.setIfInBounds_toArray, List.set_cons_zero, List.set_cons_succ, i64_w, i32_w]; rfl)
  refine pure_ (i := 4) (N := some 8) (v := ?_) (a' := ?_) #[true, true, true, true, true, false, false, false, false, false, false, false, false, false, false, false, false, false, false, false, false, false, false, false, false, false, false, false, false, false, false, false, false, false] rfl rfl (by kernel_rfl) (fun _ _ _ h => h) (Or.inl ⟨by rfl, ?_⟩) ?_ ?_
  rotate_left; (focus intro w'; go_simp; with_reducible rfl); rotate_left; (focus simp only [Act.put, List.setIfInBounds_toArray, List.set_cons_zero, List.set_cons_succ, i64_w, i32_w]; rfl)
  refine pure_ (i := 5) (N := some 9) (v := ?_) (a' := ?_) #[true, true, true, true, true, true, false, false, false, false, false, false, false, false, false, false, false, false, false, false, false, false, false, false, false, false, false, false, false, false, false, false, false, false] rfl rfl (by kernel_rfl) (fun _ _ _ h => h) (Or.inl ⟨by rfl, ?_⟩) ?_ ?_
  rotate_left; (focus intro w'; go_simp; with_reducible rfl); rotate_left; (focus simp only [Act.put, List.setIfInBounds_toArray, List.set_cons_zero, List.set_cons_succ, i64_w, i32_w]; rfl)
  refine pure_ (i := 7) (N := some 11) (v := ?_) (a' := ?_) #[true, true, true, true, true, true, false, true, false, false, false, false, false, false, false, false, false, false, false, false, false, false, false, false, false, false, false, false, false, false, false, false, false, false] rfl rfl (by kernel_rfl) (fun _ _ _ h => h) (Or.inl ⟨by rfl, ?_⟩) ?_ ?_
  rotate_left; (focus intro w'; go_simp; with_reducible rfl); rotate_left; (focus simp only [Act.put, List.setIfInBounds_toArray, List.set_cons_zero, List.set_cons_succ, i64_w, i32_w]; rfl)
  refine pure_ (i := 9) (N := some 13) (v := ?_) (a' := ?_) #[true, true, true, true, true, true, false, true, false, true, false, false, false, false, false, false, false, false, false, false, false, false, false, false, false, false, false, false, false, false, false, false, false, false] rfl rfl (by kernel_rfl) (fun _ _ _ h => h) (Or.inl ⟨by rfl, ?_⟩) ?_ ?_
  rotate_left; (focus intro w'; go_simp; with_reducible rfl); rotate_left; (focus simp only [Act.put, List.setIfInBounds_toArray, List.set_cons_zero, List.set_cons_succ, i64_w, i32_w]; rfl)
  refine pure_ (i := 10) (N := some 14) (v := ?_) (a' := ?_) #[true, true, true, true, true, true, false, true, false, true, true, false, false, false, false, false, false, false, false, false, false, false, false, false, false, false, false, false, false, false, false, false, false, false] rfl rfl (by kernel_rfl) (fun _ _ _ h => h) (Or.inl ⟨by rfl, ?_⟩) ?_ ?_
  rotate_left; (focus intro w'; go_simp; with_reducible rfl); rotate_left; (focus simp only [Act.put, List.setIfInBounds_toArray, List.set_cons_zero, List.set_cons_succ, i64_w, i32_w]; rfl)
  refine pure_ (i := 14) (N := some 18) (v := ?_) (a' := ?_) #[true, true, true, true, true, true, false, true, false, true, true, false, false, false, true, false, false, false, false, false, false, false, false, false, false, false, false, false, false, false, false, false, false, false] rfl rfl (by kernel_rfl) (fun _ _ _ h => h) (Or.inl ⟨by rfl, ?_⟩) ?_ ?_
  rotate_left; (focus intro w'; go_simp; with_reducible rfl); rotate_left; (focus simp only [Act.put, List.setIfInBounds_toArray, List.set_cons_zero, List.set_cons_succ, i64_w, i32_w]; rfl)
  refine pure_ (i := 15) (N := some 19) (v := ?_) (a' := ?_) #[true, true, true, true, true, true, false, true, false, true, true, false, false, false, true, true, false, false, false, false, false, false, false, false, false, false, false, false, false, false, false, false, false, false] rfl rfl (by kernel_rfl) (fun _ _ _ h => h) (Or.inl ⟨by rfl, ?_⟩) ?_ ?_
  rotate_left; (focus intro w'; go_simp; with_reducible rfl); rotate_left; (focus simp only [Act.put, List.setIfInBounds_toArray, List.set_cons_zero, List.set_cons_succ, i64_w, i32_w]; rfl)
  refine pure_ (i := 16) (N := some 20) (v := ?_) (a' := ?_) #[true, true, true, true, true, true, false, true, false, true, true, false, false, false, true, true, true, false, false, false, false, false, false, false, false, false, false, false, false, false, false, false, false, false] rfl rfl (by kernel_rfl) (fun _ _ _ h => h) (Or.inl ⟨by rfl, ?_⟩) ?_ ?_
  rotate_left; (focus intro w'; go_simp; with_reducible rfl); rotate_left; (focus simp only [Act.put, List.setIfInBounds_toArray, List.set_cons_zero, List.set_cons_succ, i64_w, i32_w]; rfl)
  refine pure_ (i := 17) (N := some 21) (v := ?_) (a' := ?_) #[true, true, true, true, true, true, false, true, false, true, true, false, false, false, true, true, true, true, false, false, false, false, false, false, false, false, false, false, false, false, false, false, false, false] rfl rfl (by kernel_rfl) (fun _ _ _ h => h) (Or.inl ⟨by rfl, ?_⟩) ?_ ?_
  rotate_left; (focus intro w'; go_simp; with_reducible rfl); rotate_left; (focus simp only [Act.put, List.setIfInBounds_toArray, List.set_cons_zero, List.set_cons_succ, i64_w, i32_w]; rfl)
  refine pure_ (i := 19) (N := some 23) (v := ?_) (a' := ?_) #[true, true, true, true, true, true, false, true, false, true, true, false, false, false, true, true, true, true, false, true, false, false, false, false, false, false, false, false, false, false, false, false, false, false] rfl rfl (by kernel_rfl) (fun _ _ _ h => h) (Or.inl ⟨by rfl, ?_⟩) ?_ ?_
  rotate_left; (focus intro w'; go_simp; with_reducible rfl); rotate_left; (focus simp only [Act.put, List.setIfInBounds_toArray, List.set_cons_zero, List.set_cons_succ, i64_w, i32_w]; rfl)
  refine pure_ (i := 20) (N := some 24) (v := ?_) (a' := ?_) #[true, true, true, true, true, true, false, true, false, true, true, false, false, false, true, true, true, true, false, true, true, false, false, false, false, false, false, false, false, false, false, false, false, false] rfl rfl (by kernel_rfl) (fun _ _ _ h => h) (Or.inl ⟨by rfl, ?_⟩) ?_ ?_
  rotate_left; (focus intro w'; go_simp; with_reducible rfl); rotate_left; (focus simp only [Act.put, List.setIfInBounds_toArray, List.set_cons_zero, List.set_cons_succ, i64_w, i32_w]; rfl)
  refine pure_ (i := 22) (N := some 26) (v := ?_) (a' := ?_) #[true, true, true, true, true, true, false, true, false, true, true, false, false, false, true, true, true, true, false, true, true, false, true, false, false, false, false, false, false, false, false, false, false, false] rfl rfl (by kernel_rfl) (fun _ _ _ h => h) (Or.inl ⟨by rfl, ?_⟩) ?_ ?_
  rotate_left; (focus intro w'; go_simp; with_reducible rfl); rotate_left; (focus simp only [Act.put, List.setIfInBounds_toArray, List.set_cons_zero, List.set_cons_succ, i64_w, i32_w]; rfl)
  refine take_ (i := 8) (N := some 12) (v := ?_) (a' := ?_) #[true, true, true, true, true, true, false, true, true, true, true, false, false, false, true, true, true, true, false, true, true, false, true, false, false, false, false, false, false, false, false, false, false, false] rfl rfl (by kernel_rfl) (fun _ _ _ h => h) (Or.inl ⟨by rfl, ?_⟩) hHeld ?_ ?_
  rotate_left; (focus rintro w' ⟨s0, s1, s2, s3⟩; go_simp; with_reducible rfl); rotate_left; (focus simp only [Act.put, List.setIfInBounds_toArray, List.set_cons_zero, List.set_cons_succ, i64_w, i32_w]; rfl)
  refine take_ (i := 11) (N := some 15) (v := ?_) (a' := ?_) #[true, true, true, true, true, true, false, true, true, true, true, true, false, false, true, true, true, true, false, true, true, false, true, false, false, false, false, false, false, false, false, false, false, false] rfl rfl (by kernel_rfl) (fun _ _ _ h => h) (Or.inl ⟨by rfl, ?_⟩) hHeld ?_ ?_
  rotate_left; (focus rintro w' ⟨s0, s1, s2, s3⟩; go_simp; with_reducible rfl); rotate_left; (focus simp only [Act.put, List.setIfInBounds_toArray, List.set_cons_zero, List.set_cons_succ, i64_w, i32_w]; rfl)
  refine take_ (i := 18) (N := some 22) (v := ?_) (a' := ?_) #[true, true, true, true, true, true, false, true, true, true, true, true, false, false, true, true, true, true, true, true, true, false, true, false, false, false, false, false, false, false, false, false, false, false] rfl rfl (by kernel_rfl) (fun _ _ _ h => h) (Or.inl ⟨by rfl, ?_⟩) hHeld ?_ ?_
  rotate_left; (focus rintro w' ⟨s0, s1, s2, s3⟩; go_simp; with_reducible rfl); rotate_left; (focus simp only [Act.put, List.setIfInBounds_toArray, List.set_cons_zero, List.set_cons_succ, i64_w, i32_w]; rfl)
  refine take_ (i := 21) (N := some 25) (v := ?_) (a' := ?_) #[true, true, true, true, true, true, false, true, true, true, true, true, false, false, true, true, true, true, true, true, true, true, true, false, false, false, false, false, false, false, false, false, false, false] rfl rfl (by kernel_rfl) (fun _ _ _ h => h) (Or.inl ⟨by rfl, ?_⟩) hHeld ?_ ?_
  rotate_left; (focus rintro w' ⟨s0, s1, s2, s3⟩; go_simp; with_reducible rfl); rotate_left; (focus simp only [Act.put, List.setIfInBounds_toArray, List.set_cons_zero, List.set_cons_succ, i64_w, i32_w]; rfl)
  refine take_ (i := 23) (N := some 27) (v := ?_) (a' := ?_) #[true, true, true, true, true, true, false, true, true, true, true, true, false, false, true, true, true, true, true, true, true, true, true, true, false, false, false, false, false, false, false, false, false, false] rfl rfl (by kernel_rfl) (fun _ _ _ h => h) (Or.inl ⟨by rfl, ?_⟩) hHeld ?_ ?_
  rotate_left; (focus rintro w' ⟨s0, s1, s2, s3⟩; go_simp; with_reducible rfl); rotate_left; (focus simp only [Act.put, List.setIfInBounds_toArray, List.set_cons_zero, List.set_cons_succ, i64_w, i32_w]; rfl)
  refine pure_ (i := 12) (N := some 16) (v := ?_) (a' := ?_) #[true, true, true, true, true, true, false, true, true, true, true, true, true, false, true, true, true, true, true, true, true, true, true, true, false, false, false, false, false, false, false, false, false, false] rfl rfl (by kernel_rfl) (fun _ _ _ h => h) (Or.inl ⟨by rfl, ?_⟩) ?_ ?_
  rotate_left; (focus intro w'; go_simp; with_reducible rfl); rotate_left; (focus simp only [Act.put, List.setIfInBounds_toArray, List.set_cons_zero, List.set_cons_succ, i64_w, i32_w]; rfl)
  refine pure_ (i := 24) (N := some 28) (v := ?_) (a' := ?_) #[true, true, true, true, true, true, false, true, true, true, true, true, true, false, true, true, true, true, true, true, true, true, true, true, true, false, false, false, false, false, false, false, false, false] rfl rfl (by kernel_rfl) (fun _ _ _ h => h) (Or.inl ⟨by rfl, ?_⟩) ?_ ?_
  rotate_left; (focus intro w'; go_simp; with_reducible rfl); rotate_left; (focus simp only [Act.put, List.setIfInBounds_toArray, List.set_cons_zero, List.set_cons_succ, i64_w, i32_w]; rfl)
  refine pure_ (i := 25) (N := some 29) (v := ?_) (a' := ?_) #[true, true, true, true, true, true, false, true, true, true, true, true, true, false, true, true, true, true, true, true, true, true, true, true, true, true, false, false, false, false, false, false, false, false] rfl rfl (by kernel_rfl) (fun _ _ _ h => h) (Or.inl ⟨by rfl, ?_⟩) ?_ ?_
  rotate_left; (focus intro w'; go_simp; with_reducible rfl); rotate_left; (focus simp only [Act.put, List.setIfInBounds_toArray, List.set_cons_zero, List.set_cons_succ, i64_w, i32_w]; rfl)
  have hx0 := blk_cell BV.out 0
  have hf0 := blk_frozen BV.out 0
  have hx1 := blk_cell BV.out 1
  have hf1 := blk_frozen BV.out 1
  refine one_ (i := 6) (N := some 10) #[true, true, true, true, true, true, true, true, true, true, true, true, true, false, true, true, true, true, true, true, true, true, true, true, true, true, false, false, false, false, false, false, false, false] rfl rfl (by kernel_rfl) (by decide) (fun K hK => ?_)
  refine event_step (v := .int .i64 t0) (w1 := w8) (by rfl) (by go_simp; first | done | rfl) ?_
  refine hK.out _ _ ⟨blk_cell BV.out 1, blk_cell BX.out 0, blk_cell BX.out 1, blk_cell BX.out 2⟩ (fun hHeld => ?_)
  clear hK K
  refine norm_ (a' := ?_) ?_ ?_
  rotate_left; (focus show Act.put _ (some 10) _ = _; simp only [Act.put, List.setIfInBounds_toArray, List.set_cons_zero, List.set_cons_succ, i64_w, i32_w]; rfl)
  refine pure_ (i := 13) (N := some 17) (v := ?_) (a' := ?_) #[true, true, true, true, true, true, true, true, true, true, true, true, true, true, true, true, true, true, true, true, true, true, true, true, true, true, false, false, false, false, false, false, false, false] rfl rfl (by kernel_rfl) (fun _ _ _ h => h) (Or.inl ⟨by rfl, ?_⟩) ?_ ?_
  rotate_left; (focus intro w'; go_simp; with_reducible rfl); rotate_left; (focus simp only [Act.put, List.setIfInBounds_toArray, List.set_cons_zero, List.set_cons_succ, i64_w, i32_w]; rfl)
  refine pure_ (i := 26) (N := some 30) (v := ?_) (a' := ?_) #[true, true, true, true, true, true, true, true, true, true, true, true, true, true, true, true, true, true, true, true, true, true, true, true, true, true, true, false, false, false, false, false, false, false] rfl rfl (by kernel_rfl) (fun _ _ _ h => h) (Or.inl ⟨by rfl, ?_⟩) ?_ ?_
  rotate_left; (focus intro w'; go_simp; with_reducible rfl); rotate_left; (focus simp only [Act.put, List.setIfInBounds_toArray, List.set_cons_zero, List.set_cons_succ, i64_w, i32_w]; rfl)
  refine pure_ (i := 27) (N := some 31) (v := ?_) (a' := ?_) #[true, true, true, true, true, true, true, true, true, true, true, true, true, true, true, true, true, true, true, true, true, true, true, true, true, true, true, true, false, false, false, false, false, false] rfl rfl (by kernel_rfl) (fun _ _ _ h => h) (Or.inl ⟨by rfl, ?_⟩) ?_ ?_
  rotate_left; (focus intro w'; go_simp; with_reducible rfl); rotate_left; (focus simp only [Act.put, List.setIfInBounds_toArray, List.set_cons_zero, List.set_cons_succ, i64_w, i32_w]; rfl)
  refine pure_ (i := 28) (N := some 32) (v := ?_) (a' := ?_) #[true, true, true, true, true, true, true, true, true, true, true, true, true, true, true, true, true, true, true, true, true, true, true, true, true, true, true, true, true, false, false, false, false, false] rfl rfl (by kernel_rfl) (fun _ _ _ h => h) (Or.inl ⟨by rfl, ?_⟩) ?_ ?_
  rotate_left; (focus intro w'; go_simp; with_reducible rfl); rotate_left; (focus simp only [Act.put, List.setIfInBounds_toArray, List.set_cons_zero, List.set_cons_succ, i64_w, i32_w]; rfl)
  refine one_ (i := 29) (N := none) #[true, true, true, true, true, true, true, true, true, true, true, true, true, true, true, true, true, true, true, true, true, true, true, true, true, true, true, true, true, true, false, false, false, false] rfl rfl (by kernel_rfl) (by decide) (fun K hK => ?_)
  refine skip_ (w1 := ?_) (by rfl) rfl ?_ ?_
  rotate_left; (focus go_simp; rfl)
  replace BV := Aside0.mk (blk_put BV.out 0 (.int .i64 u0) rfl)
  replace HB := Aside0.mk (HB.out.set 0 (.int .i64 u0))
  replace BX := Aside0.mk (blk_far (p := ⟨b, 0, none⟩) BX.out (by have := HLT.out; simp; omega) (.int .i64 u0))
  refine hK.out _ _ ⟨blk_cell BV.out 1, blk_cell BX.out 0, blk_cell BX.out 1, blk_cell BX.out 2⟩ (fun hHeld => ?_)
  clear hK K
  refine pure_ (i := 30) (N := some 33) (v := ?_) (a' := ?_) #[true, true, true, true, true, true, true, true, true, true, true, true, true, true, true, true, true, true, true, true, true, true, true, true, true, true, true, true, true, true, true, false, false, false] rfl rfl (by kernel_rfl) (fun _ _ _ h => h) (Or.inl ⟨by rfl, ?_⟩) ?_ ?_
  rotate_left; (focus intro w'; go_simp; with_reducible rfl); rotate_left; (focus simp only [Act.put, List.setIfInBounds_toArray, List.set_cons_zero, List.set_cons_succ, i64_w, i32_w]; rfl)
  refine pure_ (i := 31) (N := some 34) (v := ?_) (a' := ?_) #[true, true, true, true, true, true, true, true, true, true, true, true, true, true, true, true, true, true, true, true, true, true, true, true, true, true, true, true, true, true, true, true, false, false] rfl rfl (by kernel_rfl) (fun _ _ _ h => h) (Or.inl ⟨by rfl, ?_⟩) ?_ ?_
  rotate_left; (focus intro w'; go_simp; with_reducible rfl); rotate_left; (focus simp only [Act.put, List.setIfInBounds_toArray, List.set_cons_zero, List.set_cons_succ, i64_w, i32_w]; rfl)
  refine pure_ (i := 32) (N := some 35) (v := ?_) (a' := ?_) #[true, true, true, true, true, true, true, true, true, true, true, true, true, true, true, true, true, true, true, true, true, true, true, true, true, true, true, true, true, true, true, true, true, false] rfl rfl (by kernel_rfl) (fun _ _ _ h => h) (Or.inl ⟨by rfl, ?_⟩) ?_ ?_
  rotate_left; (focus intro w'; go_simp; with_reducible rfl); rotate_left; (focus simp only [Act.put, List.setIfInBounds_toArray, List.set_cons_zero, List.set_cons_succ, i64_w, i32_w]; rfl)
  refine last_ (i := 33) (N := none) #[true, true, true, true, true, true, true, true, true, true, true, true, true, true, true, true, true, true, true, true, true, true, true, true, true, true, true, true, true, true, true, true, true, true] rfl rfl (by kernel_rfl) (by decide) (fun K hK => ?_)
  refine skip_ (w1 := ?_) (by rfl) rfl ?_ ?_
  rotate_left; (focus go_simp; rfl)
  refine hK.out _ _ ?_
  clear hK K
  replace BV := Aside0.mk (blk_put BV.out 1 (.int .i64 u1) rfl)
  replace HB := Aside0.mk (HB.out.set 1 (.int .i64 u1))
  refine done_ (by kernel_rfl) ?_
  try simp only [Exit.then]
  clear hHeld
  go_end0
  exact ⟨rfl, BV.out, HB.out⟩
def moreP (x : S35) (t0 t1 : Int) : Int := mx (wrap64 (highP x - wrap64 (t0 + t1))) 0
def hangF (x : S35) (t0 t1 : Int) : Int × Int := if x.f2 = 1 then (t0, wrap64 (t1 + moreP x t0 t1)) else (wrap64 (t0 + moreP x t0 t1), t1)
set_option maxRecDepth 100000 in
set_option maxHeartbeats 4000000 in
theorem hangs_any (b : Nat) (x : S35) (t0 t1 : Int) (w : World) (hv : w.heap[b]? = some (.cells #[.int .i64 (t0), .int .i64 (t1)] 47 (0, 0))) :
    Calls Try.prog 25 #[.pointer (some ⟨b, 0, none⟩), .agg #[.int .i64 x.f0.f0, .int .i64 x.f0.f1, .int .i64 x.f1, .int .u8 x.f2]] w fun e w' => e = .returned (.tuple #[]) ∧ w'.heap[b]? = some (.cells #[.int .i64 ((hangF x t0 t1).1), .int .i64 ((hangF x t0 t1).2)] 47 (0, 0)) ∧ But b w w' := by
  have hlt := blk_lt hv
  have BV := Aside0.mk (show (w.alloc (.cells #[.int .i64 x.f0.f0, .int .i64 x.f0.f1, .int .i64 x.f1, .int .u8 x.f2] 35 (0, 0))).heap[b]? = some (.cells #[.int .i64 (t0), .int .i64 (t1)] 47 (0, 0)) from blk_alloc hv _)
  have BX := Aside0.mk (show (w.alloc (.cells #[.int .i64 x.f0.f0, .int .i64 x.f0.f1, .int .i64 x.f1, .int .u8 x.f2] 35 (0, 0))).heap[w.heap.size]? = some (.cells #[.int .i64 x.f0.f0, .int .i64 x.f0.f1, .int .i64 x.f1, .int .u8 x.f2] 35 (0, 0)) from blk_new w _)
  have HB : Aside0 (But b w (w.alloc (.cells #[.int .i64 x.f0.f0, .int .i64 x.f0.f1, .int .i64 x.f1, .int .u8 x.f2] 35 (0, 0)))) := ⟨But.of (below_alloc (Below.refl _ _) _)⟩
  have HLT := Aside0.mk hlt
  obtain ⟨h0, hh0⟩ : ∃ v, highP x = v := ⟨_, rfl⟩
  obtain ⟨h1, hh1⟩ : ∃ v, wrap64 (t0 + t1) = v := ⟨_, rfl⟩
  obtain ⟨df, hdf⟩ : ∃ v, wrap64 (h0 - h1) = v := ⟨_, rfl⟩
  obtain ⟨mr, hmr⟩ : ∃ v, (if df < 0 then 0 else df) = v := ⟨_, rfl⟩
  have HH := Aside0.mk (show highP x = h0 ∧ wrap64 (t0 + t1) = h1 from ⟨hh0, hh1⟩)
  have HU := Aside0.mk (show hangF x t0 t1 = (if x.f2 = 1 then (t0, wrap64 (t1 + mr)) else (wrap64 (t0 + mr), t1)) from by unfold hangF moreP mx; rw [hh0, hh1, hdf, hmr])
  obtain ⟨uv, huv⟩ : ∃ p, hangF x t0 t1 = p := ⟨_, rfl⟩
  have HV := Aside0.mk (HU.out.symm.trans huv)
  rw [huv]
  clear hv hlt hh0 hh1 huv HU
  go_enter Try.func25, Try.ntmps25
  go_wp2_with fail
  replace BV := Aside0.mk (blk_drew BV.out)
  replace BX := Aside0.mk (blk_drew BX.out)
  replace HB := Aside0.mk (HB.out.trans (But.of (below_drew1 (Below.refl _ _))))
  refine start_ (n := 11) (S := fun w' => w'.cell? ⟨b, 0, none⟩ = some (.int .i64 t0) ∧ w'.cell? ⟨b, 1, none⟩ = some (.int .i64 t1) ∧ w'.cell? ⟨w.heap.size, 0, none⟩ = some (.int .i64 x.f0.f0) ∧ w'.cell? ⟨w.heap.size, 1, none⟩ = some (.int .i64 x.f0.f1)) (ds := []) #[false, false, false, false, false, false, false, false, false, false, false] (by kernel_rfl) rfl rfl ⟨blk_cell BV.out 0, blk_cell BV.out 1, blk_cell BX.out 0, blk_cell BX.out 1⟩ (fun hHeld => ?_)
  generalize (w.alloc (.cells #[.int .i64 x.f0.f0, .int .i64 x.f0.f1, .int .i64 x.f1, .int .u8 x.f2] 35 (0, 0))).drew = w8 at BV BX HB hHeld ⊢
  refine pure_ (i := 0) (N := some 5) (v := ?_) (a' := ?_) #[true, false, false, false, false, false, false, false, false, false, false] rfl rfl (by kernel_rfl) (fun _ _ _ h => h) (Or.inl ⟨by rfl, ?_⟩) ?_ ?_
  rotate_left; (focus intro w'; go_simp; with_reducible rfl); rotate_left; (focus simp only [Act.put, List.setIfInBounds_toArray, List.set_cons_zero, List.set_cons_succ, i64_w, i32_w]; rfl)
  refine pure_ (i := 3) (N := some 8) (v := ?_) (a' := ?_) #[true, false, false, true, false, false, false, false, false, false, false] rfl rfl (by kernel_rfl) (fun _ _ _ h => h) (Or.inl ⟨by rfl, ?_⟩) ?_ ?_
  rotate_left; (focus intro w'; go_simp; with_reducible rfl); rotate_left; (focus simp only [Act.put, List.setIfInBounds_toArray, List.set_cons_zero, List.set_cons_succ, i64_w, i32_w]; rfl)
  refine pure_ (i := 4) (N := some 9) (v := ?_) (a' := ?_) #[true, false, false, true, true, false, false, false, false, false, false] rfl rfl (by kernel_rfl) (fun _ _ _ h => h) (Or.inl ⟨by rfl, ?_⟩) ?_ ?_
  rotate_left; (focus intro w'; go_simp; with_reducible rfl); rotate_left; (focus simp only [Act.put, List.setIfInBounds_toArray, List.set_cons_zero, List.set_cons_succ, i64_w, i32_w]; rfl)
  refine pure_ (i := 5) (N := some 10) (v := ?_) (a' := ?_) #[true, false, false, true, true, true, false, false, false, false, false] rfl rfl (by kernel_rfl) (fun _ _ _ h => h) (Or.inl ⟨by rfl, ?_⟩) ?_ ?_
  rotate_left; (focus intro w'; go_simp; with_reducible rfl); rotate_left; (focus simp only [Act.put, List.setIfInBounds_toArray, List.set_cons_zero, List.set_cons_succ, i64_w, i32_w]; rfl)
  refine take_ (i := 1) (N := some 6) (v := ?_) (a' := ?_) #[true, true, false, true, true, true, false, false, false, false, false] rfl rfl (by kernel_rfl) (fun _ _ _ h => h) (Or.inl ⟨by rfl, ?_⟩) hHeld ?_ ?_
  rotate_left; (focus rintro w' ⟨s0, s1, s2, s3⟩; go_simp; with_reducible rfl); rotate_left; (focus simp only [Act.put, List.setIfInBounds_toArray, List.set_cons_zero, List.set_cons_succ, i64_w, i32_w]; rfl)
  refine take_ (i := 6) (N := some 11) (v := ?_) (a' := ?_) #[true, true, false, true, true, true, true, false, false, false, false] rfl rfl (by kernel_rfl) (fun _ _ _ h => h) (Or.inl ⟨by rfl, ?_⟩) hHeld ?_ ?_
  rotate_left; (focus rintro w' ⟨s0, s1, s2, s3⟩; go_simp; with_reducible rfl); rotate_left; (focus simp only [Act.put, List.setIfInBounds_toArray, List.set_cons_zero, List.set_cons_succ, i64_w, i32_w]; rfl)
  refine one_ (i := 2) (N := some 7) #[true, true, true, true, true, true, true, false, false, false, false] rfl rfl (by kernel_rfl) (by decide) (fun K hK => ?_)
  refine goes_ Try.func24 (by kernel_rfl) rfl #[.agg #[.int .i64 x.f0.f0, .int .i64 x.f0.f1]] (by rfl) rfl rfl (by (try simp only [List.map_toArray, List.map_cons, List.map_nil]); rfl) ?_
  refine (span_high.calls x.f0.f0 x.f0.f1 h0 _ (congrArg some HH.out.1)).mono ?_
  rintro e_ w9 ⟨rfl, hb9⟩
  refine ⟨_, rfl, ?_⟩
  replace HB := Aside0.mk (HB.out.trans (But.of hb9))
  replace BV := Aside0.mk (blk_below BV.out hb9)
  replace BX := Aside0.mk (blk_below BX.out hb9)
  clear hb9
  refine hK.out _ _ ⟨blk_cell BV.out 0, blk_cell BV.out 1, blk_cell BX.out 0, blk_cell BX.out 1⟩ (fun hHeld => ?_)
  clear hK K
  refine norm_ (a' := ?_) ?_ ?_
  rotate_left; (focus show Act.put _ (some 7) _ = _; simp only [Act.put, List.setIfInBounds_toArray, List.set_cons_zero, List.set_cons_succ, i64_w, i32_w]; rfl)
  refine one_ (i := 7) (N := some 12) #[true, true, true, true, true, true, true, true, false, false, false] rfl rfl (by kernel_rfl) (by decide) (fun K hK => ?_)
  refine goes_ Try.func24 (by kernel_rfl) rfl #[.agg #[.int .i64 t0, .int .i64 t1]] (by rfl) rfl rfl (by (try simp only [List.map_toArray, List.map_cons, List.map_nil]); rfl) ?_
  refine (span_high.calls t0 t1 h1 _ (congrArg some HH.out.2)).mono ?_
  rintro e_ w9 ⟨rfl, hb9⟩
  refine ⟨_, rfl, ?_⟩
  replace HB := Aside0.mk (HB.out.trans (But.of hb9))
  replace BV := Aside0.mk (blk_below BV.out hb9)
  replace BX := Aside0.mk (blk_below BX.out hb9)
  clear hb9
  refine hK.out _ _ ⟨blk_cell BV.out 0, blk_cell BV.out 1, blk_cell BX.out 0, blk_cell BX.out 1⟩ (fun hHeld => ?_)
  clear hK K
  refine norm_ (a' := ?_) ?_ ?_
  rotate_left; (focus show Act.put _ (some 12) _ = _; simp only [Act.put, List.setIfInBounds_toArray, List.set_cons_zero, List.set_cons_succ, i64_w, i32_w]; rfl)
  refine pure_ (i := 8) (N := some 13) (v := ?_) (a' := ?_) #[true, true, true, true, true, true, true, true, true, false, false] rfl rfl (by kernel_rfl) (fun _ _ _ h => h) (Or.inl ⟨by rfl, ?_⟩) ?_ ?_
  rotate_left; (focus intro w'; go_simp; with_reducible rfl); rotate_left; (focus simp only [Act.put, List.setIfInBounds_toArray, List.set_cons_zero, List.set_cons_succ, i64_w, i32_w]; rfl)
  refine pure_ (i := 9) (N := some 14) (v := ?_) (a' := ?_) #[true, true, true, true, true, true, true, true, true, true, false] rfl rfl (by kernel_rfl) (fun _ _ _ h => h) (Or.inl ⟨by rfl, ?_⟩) ?_ ?_
  rotate_left; (focus intro w'; go_simp; with_reducible rfl); rotate_left; (focus simp only [Act.put, List.setIfInBounds_toArray, List.set_cons_zero, List.set_cons_succ, i64_w, i32_w]; rfl)
  refine pure_ (i := 10) (N := some 4) (v := ?_) (a' := ?_) #[true, true, true, true, true, true, true, true, true, true, true] rfl rfl (by kernel_rfl) (fun _ _ _ h => h) (Or.inl ⟨by rfl, ?_⟩) ?_ ?_
  rotate_left; (focus intro w'; go_simp; with_reducible rfl); rotate_left; (focus simp only [Act.put, List.setIfInBounds_toArray, List.set_cons_zero, List.set_cons_succ, i64_w, i32_w]; rfl)
  refine done_ (by kernel_rfl) ?_
  try simp only [Exit.then]
  clear hHeld hdf hmr
  have hx0 := blk_cell BV.out 0
  have hf0 := blk_frozen BV.out 0
  have hx1 := blk_cell BV.out 1
  have hf1 := blk_frozen BV.out 1
  have hy2 := blk_cell BX.out 2
  have hy3 := blk_cell BX.out 3
  by_cases he : x.f2 = 1
  · have d1 : (x.f2 == 1) = true := beq_iff_eq.2 he
    have HE := Aside0.mk he
    clear he
    go_wp2_with fail
    go_end0
    have hu := HV.out
    rw [if_pos HE.out] at hu
    rw [← hu]
    exact ⟨rfl, blk_put BV.out 1 (.int .i64 (wrap64 (t1 + mr))) rfl, HB.out.set 1 _⟩
  · have d1 : (x.f2 == 1) = false := beq_eq_false_iff_ne.2 he
    have HE := Aside0.mk he
    clear he
    go_wp2_with fail
    go_end0
    have hu := HV.out
    rw [if_neg HE.out] at hu
    rw [← hu]
    exact ⟨rfl, blk_put BV.out 0 (.int .i64 (wrap64 (t0 + mr))) rfl, HB.out.set 0 _⟩
/-- Does a part stand by no edge? -/
def freeB (x : S35) : Bool := if x.f2 = 1 then false else (x.f2 != 2)
theorem free_eq (x : S35) : span_free.f x.f0.f0 x.f0.f1 x.f1 x.f2 = some (freeB x) := by
  unfold span_free.f freeB
  split <;> rfl
/-- Something done with each part of which something is so. -/
def eachF (f : S35 → Int → Int → Int × Int) (so : Bool) : List S35 → Int × Int → Int × Int
  | [], s => s
  | x :: xs, s => eachF f so xs (if freeB x = so then f x s.1 s.2 else s)
set_option maxRecDepth 100000 in
set_option maxHeartbeats 4000000 in
theorem each_any (gi b : Nat) (f : S35 → Int → Int → Int × Int) (so : Bool) (A : Option Addr) (c : Nat) (l : List S35) (s : Int × Int) (w : World) (heg : ∀ args w, (callFunc gi args).run Try.prog w = .ok (.enter gi args) w)
    (hf : ∀ (x : S35) (t0 t1 : Int) (W : World), W.heap[b]? = some (.cells #[.int .i64 (t0), .int .i64 (t1)] 47 (0, 0)) → Calls Try.prog gi #[.pointer (some ⟨b, 0, none⟩), .agg #[.int .i64 x.f0.f0, .int .i64 x.f0.f1, .int .i64 x.f1, .int .u8 x.f2]] W fun e W' => e = .returned (.tuple #[]) ∧ W'.heap[b]? = some (.cells #[.int .i64 ((f x t0 t1).1), .int .i64 ((f x t0 t1).2)] 47 (0, 0)) ∧ But b W W')
    (hr : ∀ W, But b w W → Kd.C k35 W A l.length l) (hv : w.heap[b]? = some (.cells #[.int .i64 (s.1), .int .i64 (s.2)] 47 (0, 0))) :
    Calls Try.prog 18 #[.slice A l.length c, .bool so, .func (.func gi) #[.pointer (some ⟨b, 0, none⟩)] #[]] w fun e w' => e = .returned (.tuple #[]) ∧ w'.heap[b]? = some (.cells #[.int .i64 ((eachF f so l s).1), .int .i64 ((eachF f so l s).2)] 47 (0, 0)) ∧ But b w w' := by
  have HF := Aside0.mk hf
  have HR := Aside0.mk hr
  have hmx : l.length ≤ 9223372036854775807 := (hr w (But.refl b w)).2.1
  have BV := Aside0.mk hv
  generalize hR : eachF f so l s = r
  have HRR := Aside0.mk (show eachF f so (l.drop (0 : Int).toNat) s = r from hR)
  clear hf hr hR hv
  go_enter Try.func18, Try.ntmps18
  go_wp2_with fail
  go_loopg [10] (l.length + 1) (fun kq v10 wr => ∃ (x : Int) (t : Int × Int), v10 = .int .i64 x ∧ Aside0 (0 ≤ x ∧ x ≤ (l.length : Int) ∧ x + (kq : Int) = (l.length : Int) + 1) ∧ Aside0 (eachF f so (l.drop x.toNat) t = r) ∧ Aside0 (wr.heap[b]? = some (.cells #[.int .i64 (t.1), .int .i64 (t.2)] 47 (0, 0))) ∧ Aside0 (But b w wr))
  case atStart => exact ⟨0, s, rfl, ⟨by omega⟩, HRR, BV, ⟨But.refl _ _⟩⟩
  case round =>
    clear HRR BV
    obtain ⟨x, t, rfl, hin, hA, BV, HB⟩ := hrel
    cases gk with
    | zero => have := hin.out; exfalso; omega
    | succ m =>
    by_cases hx : x < (l.length : Int)
    · have d1 : decide (x < (l.length : Int)) = true := decide_eq_true hx
      have z1 : 0 ≤ x := hin.out.1
      obtain ⟨ad0, e0, hx0, hx1, hx2, hx3⟩ := at_T35 (HR.out wr HB.out) x z1 hx
      cases e0
      have hAs := hA.out
      have hd : l.drop x.toNat = rd_T35 l x :: l.drop (x + 1).toNat := by
        rw [show (x + 1).toNat = x.toNat + 1 by omega, List.drop_eq_getElem_cons (by omega)]
        unfold rd_T35
        rw [List.getD_eq_getElem?_getD, List.getElem?_eq_getElem (by omega)]
        rfl
      rw [hd] at hAs
      simp only [eachF] at hAs
      have e5 : IntKind.i64.wrap (x + 1) = x + 1 := IntWalk.i64_in _ (by omega)
      have HI := Aside0.mk (show x + 1 ≤ (l.length : Int) by omega)
      clear hA hd
      generalize rd_T35 l x = q at hx0 hx1 hx2 hx3 hAs
      have HA := Aside0.mk hAs
      clear hAs
      go_wp2_with (first
        | ((with_reducible refine gate_dst (N := 7) rfl ?_); (try (refine gate_guard (by rfl) ?_; dsimp only)); refine box_event ?hg (N := 7) ?hd (cs := #[.int .i64 0, .int .i64 0, .int .i64 0, .int .u8 0]) (t := 35) ?hr ?_; (case hd => rfl); (case hg => rfl); (case hr => first | (go_simp; done) | (go_simp; rfl)); intro gb7 hg w7 hbox hb; have BK7 := Aside0.mk (hbox); have NE7 := Aside0.mk (show b ≠ gb7 from by have := blk_lt BV.out; omega); have GE7 := Aside0.mk (show wr.heap.size ≤ gb7 from by omega); replace BV := Aside0.mk (blk_below BV.out hb); have HW7 := Aside0.mk hb; clear hb hbox hg)
        | ((with_reducible refine gate_store (t := 35) (p := 7) (v := .tmp 13) rfl ?_); refine Aside0.out ?_))
      refine Aside0.mk ?_
      refine store_row_event rfl 35 (.tmp 7) (.tmp 13) rfl rfl gb7 _ rfl rfl 35 _ BK7.out (by kernel_rfl) rfl (by simp [Value.oneCell']) ?_
      intro ws hs hk hb
      replace BK7 := Aside0.mk hs
      have HW8 := Aside0.mk (hb _ _ GE7.out HW7.out)
      replace BV := Aside0.mk (show ws.heap[b]? = some (.cells #[.int .i64 (t.1), .int .i64 (t.2)] 47 (0, 0)) from hk.blk BV.out NE7.out (by simp))
      clear hs hb hk hx0 hx1 hx2 hx3 HW7
      replace HB := Aside0.mk (HB.out.trans (But.of HW8.out))
      have hk0 := blk_cell BK7.out 0
      have hk1 := blk_cell BK7.out 1
      have hk2 := blk_cell BK7.out 2
      have hk3 := blk_cell BK7.out 3
      clear HW8
      by_cases hfr : freeB q = so
      · have d2 : (freeB q == so) = true := beq_iff_eq.2 hfr
        have HA2 := HA.out
        rw [if_pos hfr] at HA2
        have HA3 := Aside0.mk HA2
        clear HA2 hfr HA
        go_wp2_with (first | (go_at_call 33; refine (span_free.calls q.f0.f0 q.f0.f1 q.f1 q.f2 (freeB q) _ (free_eq q)).mono ?_; rintro e w9 ⟨rfl, hb9⟩; have BK9 := Aside0.mk (blk_below BK7.out hb9); have BV9 := Aside0.mk (blk_below BV.out hb9); have HB9 := Aside0.mk (HB.out.trans (But.of hb9)); clear hb9 hk0 hk1 hk2 hk3; have hk0 := blk_cell BK9.out 0; have hk1 := blk_cell BK9.out 1; have hk2 := blk_cell BK9.out 2; have hk3 := blk_cell BK9.out 3))
        refine (HF.out q t.1 t.2 _ BV9.out).mono ?_
        rintro e_ w10 ⟨rfl, hv10, hb10⟩
        go_wp2_with fail
        go_roundg m
        case measure => omega
        case rel => exact ⟨x + 1, f q t.1 t.2, rfl, ⟨by have := hin.out; have := HI.out; omega⟩, HA3, ⟨hv10⟩, ⟨HB9.out.trans hb10⟩⟩
      · have d2 : (freeB q == so) = false := beq_eq_false_iff_ne.2 hfr
        have HA2 := HA.out
        rw [if_neg hfr] at HA2
        have HA3 := Aside0.mk HA2
        clear HA2 hfr HA
        go_wp2_with (first | (go_at_call 33; refine (span_free.calls q.f0.f0 q.f0.f1 q.f1 q.f2 (freeB q) _ (free_eq q)).mono ?_; rintro e w9 ⟨rfl, hb9⟩; have BV9 := Aside0.mk (blk_below BV.out hb9); have HB9 := Aside0.mk (HB.out.trans (But.of hb9)); clear hb9))
        go_roundg m
        case measure => omega
        case rel => exact ⟨x + 1, t, rfl, ⟨by have := hin.out; have := HI.out; omega⟩, HA3, BV9, HB9⟩
    · have d1 : decide (x < (l.length : Int)) = false := decide_eq_false hx
      have hA2 := hA.out
      rw [List.drop_of_length_le (by omega)] at hA2
      simp only [eachF] at hA2
      subst hA2
      clear hA
      go_wp2_with fail
      go_end0
      exact ⟨rfl, BV.out, HB.out⟩
theorem RowAt.reads {w : World} {g : Nat} {xs : List S35} (h : RowAt w g xs) (hm : xs.length ≤ 9223372036854775807) : Kd.C k35 w (some ⟨g, 0, none⟩) xs.length xs := by
  refine ⟨rfl, hm, fun _ => ⟨_, rfl, fun j p hp => ?_⟩⟩
  have hj : j < xs.length := (List.getElem?_eq_some_iff.1 hp).1
  have hr := (h.2 j hj).1
  have e : xs.getD j z35 = p := by rw [List.getD_eq_getElem?_getD, hp]; rfl
  rw [e] at hr
  refine ⟨encP p, rfl, k35_mk w p, fun i u hu => ?_⟩
  have := hr i u hu
  rw [Addr.add_mid, Nat.zero_add]
  exact this
theorem C_nilP (w : World) (A : Option Addr) : Kd.C k35 w A 0 [] := ⟨rfl, by omega, fun h => absurd h (by omega)⟩
theorem RowAt.ofR {w : World} {base e : Nat} {ok : Nat → Prop} {v : Value} {xs : List S35} (h : Kd.R k35 e w base ok v xs) (hx : xs ≠ []) : ∃ g cap, v = .slice (some ⟨g, 0, none⟩) xs.length cap ∧ base ≤ g ∧ xs.length ≤ 9223372036854775807 ∧ RowAt w g xs := by
  obtain ⟨inner, ho⟩ := Kd.R_own h
  obtain ⟨A, c, hv, hle, hC⟩ := Kd.R_reads h
  rcases ho.2 with ⟨rfl, h0⟩ | ⟨g, cap, cur, rfl, hb, hg, _, _, _, _⟩
  · exact absurd (List.eq_nil_of_length_eq_zero h0) hx
  · injection hv with h1 h2 h3
    subst h1
    refine ⟨g, cap, rfl, hb, hC.2.1, blk_lt hg, fun q hq => ?_⟩
    obtain ⟨ad, c, hA, _, hK, hc⟩ := Kd.C_get hC z35 (q : Int) (by omega) (by omega)
    injection hA with hA
    subst hA
    rw [Int.toNat_natCast] at hK hc
    have hk : c = encP (xs.getD q z35) := k35_open hK
    subst hk
    have hc' : ∀ j u, (encP (xs.getD q z35))[j]? = some u → w.cell? ⟨g, q * 4 + j, none⟩ = some u := fun j u hu => by
      have := hc j u hu
      rw [Addr.add_mid, Nat.zero_add] at this
      exact this
    refine ⟨hc', fun j hj => ⟨?_, blk_frozen hg (q * 4 + j)⟩⟩
    have : j < (encP (xs.getD q z35)).length := hj
    rw [hc' j _ (List.getElem?_eq_getElem this)]
    rfl
theorem results_cell_tmp2 {fn : Func} {p u v : Tmp} {ty : TypeId} (h : fn.results = #[.cell p ty, .tmp u, .tmp v]) (tmps : Array Value) (P : Program) (w : World) :
    (results fn tmps).run P w = ((asAddr (tmps.getD p undef)).run P w).andThen fun a w₁ => ((loadVar ty a).run P w₁).andThen fun x w₂ => .ok (.tuple #[x, tmps.getD u undef, tmps.getD v undef]) w₂ := by
  simp only [results, h]
  simp [Sem.run_bind, Result.andThen]
theorem line_res (tmps : Array Value) (w : World) (g : Nat) (a b : Int) (v5 v6 : Value) (h4 : tmps.getD 4 undef = .pointer (some ⟨g, 0, none⟩)) (h5 : tmps.getD 5 undef = v5) (h6 : tmps.getD 6 undef = v6) (hg : w.heap[g]? = some (.cells #[.int .i64 a, .int .i64 b] 23 (0, 0))) :
    (results Try.f10 tmps).run Try.prog w = .ok (.tuple #[.agg #[.int .i64 a, .int .i64 b], v5, v6]) w := by
  have hl : (loadVar 23 ⟨g, 0, none⟩).run Try.prog w = .ok (.agg #[.int .i64 a, .int .i64 b]) w := run_loadVar_mid w g 0 23 [.int .i64 a, .int .i64 b] _ (fun j v hv => by
    rw [Nat.zero_add, blk_cell hg j, ← hv]
    simp) Try.underlying23 rfl (by kernel_rfl)
  rw [results_cell_tmp2 (p := 4) (u := 5) (v := 6) (ty := 23) rfl, h4, h5, h6]
  simp [asAddr, hl, Result.andThen]
/-- Where a part's baseline is. -/
def outP (s : Int × Int) (x : S35) : Int := if x.f2 = 1 then wrap64 (s.1 - x.f0.f0) else if x.f2 = 2 then wrap64 (x.f0.f1 - s.2) else x.f1
def sortP (l : List S35) : List S35 := stableL (fun x y => decide (cmpP x y < 0)) z35 l
/-- The interval. -/
def lineS (a0 a1 : Int) (l : List S35) : Int × Int := eachF hangF false (sortP l) (eachF hasF true l (a0, a1))
def farL (a0 a1 : Int) : Bool := [a0, a1].any farB
def span_Line.f (a0_0 a0_1 : Int) (l1 : List S35) : Option (Int × Int × List Int × Int) :=
  if (l1.length : Int) > 65536 ∨ farL a0_0 a0_1 = true ∨ l1.any farP = true then some (0, 0, [], 2) else some ((lineS a0_0 a0_1 l1).1, (lineS a0_0 a0_1 l1).2, l1.map (outP (lineS a0_0 a0_1 l1)), 0)
theorem line_zero (w : World) : ∀ (e : Ending) (w' : World), e = .returned (.tuple #[.agg #[.int .i64 0, .int .i64 0], .slice none 0 0, .int .i64 2]) ∧ Below w.heap.size w w' → ∃ v2_ : Value, e = .returned (.tuple #[.agg #[.int .i64 0, .int .i64 0], v2_, .int .i64 2]) ∧ Kd.R (Kd.int .i64) 2 w' w.heap.size (fun _ => True) v2_ [] ∧ Below w.heap.size w w' := fun e w' h => ⟨_, h.1, Kd.R_nil _ _ _ _ _, h.2⟩

set_option maxRecDepth 100000 in
set_option maxHeartbeats 4000000 in
theorem line_bad1 (a0 a1 : Int) (A1 : Option Addr) (c1 : Nat) (l1 : List S35) (w : World) (hr1 : Kd.C k35 w A1 l1.length l1) (hc1 : l1.length ≤ c1) (h : (l1.length : Int) > 65536) : Calls Try.prog 10 #[.agg #[.int .i64 a0, .int .i64 a1], .slice A1 l1.length c1] w fun e w' => e = .returned (.tuple #[.agg #[.int .i64 0, .int .i64 0], .slice none 0 0, .int .i64 2]) ∧ Below w.heap.size w w' := by
  have B2 := Aside0.mk (show ((w.alloc (.cells #[.int .i64 a0, .int .i64 a1] 23 (0, 0))).alloc (.cells #[.int .i64 0, .int .i64 0] 23 (0, 0))).heap[w.heap.size]? = some (.cells #[.int .i64 a0, .int .i64 a1] 23 (0, 0)) from blk_alloc (blk_new w _) _)
  have B4 := Aside0.mk (show ((w.alloc (.cells #[.int .i64 a0, .int .i64 a1] 23 (0, 0))).alloc (.cells #[.int .i64 0, .int .i64 0] 23 (0, 0))).heap[w.heap.size + 1]? = some (.cells #[.int .i64 0, .int .i64 0] 23 (0, 0)) from by have := blk_new (w.alloc (.cells #[.int .i64 a0, .int .i64 a1] 23 (0, 0))) (.cells #[.int .i64 0, .int .i64 0] 23 (0, 0)); rw [World.size_alloc] at this; exact this)
  have HB := Aside0.mk (show Below w.heap.size w ((w.alloc (.cells #[.int .i64 a0, .int .i64 a1] 23 (0, 0))).alloc (.cells #[.int .i64 0, .int .i64 0] 23 (0, 0))) from below_alloc (below_alloc (Below.refl _ _) _) _)
  have HR0 := Aside0.mk hr1
  have HC0 := Aside0.mk hc1
  have hx2_0 := blk_cell B2.out 0
  have hx2_1 := blk_cell B2.out 1
  have hx4_0 := blk_cell B4.out 0
  have hx4_1 := blk_cell B4.out 1
  have hf4_0 := blk_frozen B4.out 0
  have hf4_1 := blk_frozen B4.out 1
  have d1 : decide ((l1.length : Int) > 65536) = true := decide_eq_true h
  have d2 : decide (65536 < (l1.length : Int)) = true := decide_eq_true h
  clear hr1 hc1 h
  go_enter Try.func10, Try.ntmps10
  go_wp2_with fail
  (try simp only [Exit.inBlock, Exit.then]); refine bodyPost_ret (line_res _ _ (w.heap.size + 1) 0 0 _ _ rfl rfl rfl B4.out) rfl ?_
  exact ⟨rfl, HB.out⟩
set_option maxRecDepth 100000 in
set_option maxHeartbeats 4000000 in
theorem line_bad2 (a0 a1 : Int) (A1 : Option Addr) (c1 : Nat) (l1 : List S35) (w : World) (hr1 : Kd.C k35 w A1 l1.length l1) (hc1 : l1.length ≤ c1) (h : ¬ (l1.length : Int) > 65536) (h2 : farL a0 a1 = true) : Calls Try.prog 10 #[.agg #[.int .i64 a0, .int .i64 a1], .slice A1 l1.length c1] w fun e w' => e = .returned (.tuple #[.agg #[.int .i64 0, .int .i64 0], .slice none 0 0, .int .i64 2]) ∧ Below w.heap.size w w' := by
  have B2 := Aside0.mk (show ((w.alloc (.cells #[.int .i64 a0, .int .i64 a1] 23 (0, 0))).alloc (.cells #[.int .i64 0, .int .i64 0] 23 (0, 0))).heap[w.heap.size]? = some (.cells #[.int .i64 a0, .int .i64 a1] 23 (0, 0)) from blk_alloc (blk_new w _) _)
  have B4 := Aside0.mk (show ((w.alloc (.cells #[.int .i64 a0, .int .i64 a1] 23 (0, 0))).alloc (.cells #[.int .i64 0, .int .i64 0] 23 (0, 0))).heap[w.heap.size + 1]? = some (.cells #[.int .i64 0, .int .i64 0] 23 (0, 0)) from by have := blk_new (w.alloc (.cells #[.int .i64 a0, .int .i64 a1] 23 (0, 0))) (.cells #[.int .i64 0, .int .i64 0] 23 (0, 0)); rw [World.size_alloc] at this; exact this)
  have HB := Aside0.mk (show Below w.heap.size w ((w.alloc (.cells #[.int .i64 a0, .int .i64 a1] 23 (0, 0))).alloc (.cells #[.int .i64 0, .int .i64 0] 23 (0, 0))) from below_alloc (below_alloc (Below.refl _ _) _) _)
  have HR0 := Aside0.mk hr1
  have HC0 := Aside0.mk hc1
  have hx2_0 := blk_cell B2.out 0
  have hx2_1 := blk_cell B2.out 1
  have hx4_0 := blk_cell B4.out 0
  have hx4_1 := blk_cell B4.out 1
  have hf4_0 := blk_frozen B4.out 0
  have hf4_1 := blk_frozen B4.out 1
  have d1 : decide ((l1.length : Int) > 65536) = false := decide_eq_false h
  have d2 : decide (65536 < (l1.length : Int)) = false := decide_eq_false h
  have HF2 := Aside0.mk (show span_may.f [a0, a1] = some false from by unfold span_may.f; rw [show [a0, a1].any farB = true from h2]; rfl)
  clear hr1 hc1 h h2
  go_enter Try.func10, Try.ntmps10
  go_upto_region 2 with (first | ((with_reducible refine gate_dst (N := 20) rfl ?_); (try (refine gate_guard (by rfl) ?_; dsimp only)); refine Kd.R_lit (Kd.int .i64) w.heap.size 2 ?hg (N := 20) ?hd (xs := [a0, a1]) (inner := [.int .i64 a0, .int .i64 a1]) (ok := fun _ => True) (okp := fun _ => True) ?hr ?hp (fun _ hk => hk) trivial HB.out HB.out.size (by simp) ?_; (case hd => rfl); (case hg => rfl); (case hr => first | (go_simp; done) | (go_simp; rfl)); (case hp => exact Kd.reps_scalar [a0, a1]); intro v20 w5 ho hb hg_ hnew_; obtain ⟨A20, c20, hv20, hcc, hrr⟩ := Kd.R_reads ho; subst hv20; have HRR := Aside0.mk hrr; have HCC := Aside0.mk hcc; replace B2 := Aside0.mk ((hg_.block _ (blk_lt B2.out) (by simp)).trans B2.out); replace B4 := Aside0.mk ((hg_.block _ (blk_lt B4.out) (by simp)).trans B4.out); replace HB := Aside0.mk hb; clear ho hb hg_ hnew_ hrr hcc hx2_0 hx2_1 hx4_0 hx4_1 hf4_0 hf4_1) | (go_at_call 15; refine (span_may.calls _ _ [a0, a1] false _ HRR.out HCC.out HF2.out).mono ?_; rintro e w6 ⟨rfl, hb6⟩; replace B2 := Aside0.mk (blk_below B2.out hb6); replace B4 := Aside0.mk (blk_below B4.out hb6); replace HB := Aside0.mk (below_step HB.out hb6); clear hb6 HRR HCC))
  have hx4_0 := blk_cell B4.out 0
  have hx4_1 := blk_cell B4.out 1
  have hf4_0 := blk_frozen B4.out 0
  have hf4_1 := blk_frozen B4.out 1
  go_wp2_with fail
  (try simp only [Exit.inBlock, Exit.then]); refine bodyPost_ret (line_res _ _ (w.heap.size + 1) 0 0 _ _ rfl rfl rfl (blk_put (blk_put B4.out 0 (.int .i64 0) rfl) 1 (.int .i64 0) rfl)) rfl ?_
  exact ⟨rfl, (HB.out.setCell (p := ⟨w.heap.size + 1, 0, none⟩) (by simp) _).setCell (p := ⟨w.heap.size + 1, 1, none⟩) (by simp) _⟩
set_option maxRecDepth 100000 in
set_option maxHeartbeats 4000000 in
theorem line_bad3 (a0 a1 : Int) (A1 : Option Addr) (c1 : Nat) (l1 : List S35) (w : World) (hr1 : Kd.C k35 w A1 l1.length l1) (hc1 : l1.length ≤ c1) (h : ¬ (l1.length : Int) > 65536) (h2 : farL a0 a1 = false) (h3 : l1.any farP = true) : Calls Try.prog 10 #[.agg #[.int .i64 a0, .int .i64 a1], .slice A1 l1.length c1] w fun e w' => e = .returned (.tuple #[.agg #[.int .i64 0, .int .i64 0], .slice none 0 0, .int .i64 2]) ∧ Below w.heap.size w w' := by
  have B2 := Aside0.mk (show ((w.alloc (.cells #[.int .i64 a0, .int .i64 a1] 23 (0, 0))).alloc (.cells #[.int .i64 0, .int .i64 0] 23 (0, 0))).heap[w.heap.size]? = some (.cells #[.int .i64 a0, .int .i64 a1] 23 (0, 0)) from blk_alloc (blk_new w _) _)
  have B4 := Aside0.mk (show ((w.alloc (.cells #[.int .i64 a0, .int .i64 a1] 23 (0, 0))).alloc (.cells #[.int .i64 0, .int .i64 0] 23 (0, 0))).heap[w.heap.size + 1]? = some (.cells #[.int .i64 0, .int .i64 0] 23 (0, 0)) from by have := blk_new (w.alloc (.cells #[.int .i64 a0, .int .i64 a1] 23 (0, 0))) (.cells #[.int .i64 0, .int .i64 0] 23 (0, 0)); rw [World.size_alloc] at this; exact this)
  have HB := Aside0.mk (show Below w.heap.size w ((w.alloc (.cells #[.int .i64 a0, .int .i64 a1] 23 (0, 0))).alloc (.cells #[.int .i64 0, .int .i64 0] 23 (0, 0))) from below_alloc (below_alloc (Below.refl _ _) _) _)
  have HR0 := Aside0.mk hr1
  have HC0 := Aside0.mk hc1
  have hx2_0 := blk_cell B2.out 0
  have hx2_1 := blk_cell B2.out 1
  have hx4_0 := blk_cell B4.out 0
  have hx4_1 := blk_cell B4.out 1
  have hf4_0 := blk_frozen B4.out 0
  have hf4_1 := blk_frozen B4.out 1
  have d1 : decide ((l1.length : Int) > 65536) = false := decide_eq_false h
  have d2 : decide (65536 < (l1.length : Int)) = false := decide_eq_false h
  have HF2 := Aside0.mk (show span_may.f [a0, a1] = some true from by unfold span_may.f; rw [show [a0, a1].any farB = false from h2]; rfl)
  have d3 : l1.any farP = true := h3
  clear hr1 hc1 h h2 h3
  go_enter Try.func10, Try.ntmps10
  go_upto_region 2 with (first | ((with_reducible refine gate_dst (N := 20) rfl ?_); (try (refine gate_guard (by rfl) ?_; dsimp only)); refine Kd.R_lit (Kd.int .i64) w.heap.size 2 ?hg (N := 20) ?hd (xs := [a0, a1]) (inner := [.int .i64 a0, .int .i64 a1]) (ok := fun _ => True) (okp := fun _ => True) ?hr ?hp (fun _ hk => hk) trivial HB.out HB.out.size (by simp) ?_; (case hd => rfl); (case hg => rfl); (case hr => first | (go_simp; done) | (go_simp; rfl)); (case hp => exact Kd.reps_scalar [a0, a1]); intro v20 w5 ho hb hg_ hnew_; obtain ⟨A20, c20, hv20, hcc, hrr⟩ := Kd.R_reads ho; subst hv20; have HRR := Aside0.mk hrr; have HCC := Aside0.mk hcc; replace B2 := Aside0.mk ((hg_.block _ (blk_lt B2.out) (by simp)).trans B2.out); replace B4 := Aside0.mk ((hg_.block _ (blk_lt B4.out) (by simp)).trans B4.out); replace HB := Aside0.mk hb; clear ho hb hg_ hnew_ hrr hcc hx2_0 hx2_1 hx4_0 hx4_1 hf4_0 hf4_1) | (go_at_call 15; refine (span_may.calls _ _ [a0, a1] true _ HRR.out HCC.out HF2.out).mono ?_; rintro e w6 ⟨rfl, hb6⟩; replace B2 := Aside0.mk (blk_below B2.out hb6); replace B4 := Aside0.mk (blk_below B4.out hb6); replace HB := Aside0.mk (below_step HB.out hb6); clear hb6 HRR HCC) | (go_at_call 16; refine (hasP_any A1 c1 l1 _ (Kd.C_below HR0.out HB.out)).mono ?_; rintro e w7 ⟨rfl, hb7⟩; replace B2 := Aside0.mk (blk_below B2.out hb7); replace B4 := Aside0.mk (blk_below B4.out hb7); replace HB := Aside0.mk (below_step HB.out hb7); clear hb7))
  have hx4_0 := blk_cell B4.out 0
  have hx4_1 := blk_cell B4.out 1
  have hf4_0 := blk_frozen B4.out 0
  have hf4_1 := blk_frozen B4.out 1
  go_wp2_with fail
  (try simp only [Exit.inBlock, Exit.then]); refine bodyPost_ret (line_res _ _ (w.heap.size + 1) 0 0 _ _ rfl rfl rfl (blk_put (blk_put B4.out 0 (.int .i64 0) rfl) 1 (.int .i64 0) rfl)) rfl ?_
  exact ⟨rfl, (HB.out.setCell (p := ⟨w.heap.size + 1, 0, none⟩) (by simp) _).setCell (p := ⟨w.heap.size + 1, 1, none⟩) (by simp) _⟩
theorem stB_len {α : Type} (lt : α → α → Bool) (d : α) (N : Nat) : ∀ (f bs : Nat) (xs : List α), (stB lt d N f bs xs).length = xs.length
  | 0, _, _ => rfl
  | f + 1, bs, xs => by
    unfold stB
    split
    · rw [stB_len lt d N f, stP_len]
    · rfl
theorem sortP_len (l : List S35) : (sortP l).length = l.length := by
  unfold sortP stableL
  rw [stB_len, stA_len]
theorem RowAt.but {w w' : World} {g b : Nat} {xs : List S35} (h : RowAt w g xs) (hb : But b w w') (hne : g ≠ b) : RowAt w' g xs := by
  have hg := hb.block g h.1 hne
  have hc : ∀ o, w'.cell? ⟨g, o, none⟩ = w.cell? ⟨g, o, none⟩ := fun o => by simp only [World.cell?, hg]
  have hf : ∀ o, w'.frozen? ⟨g, o, none⟩ = w.frozen? ⟨g, o, none⟩ := fun o => by simp only [World.frozen?, hg]
  refine ⟨Nat.lt_of_lt_of_le h.1 hb.size, fun q hq => ⟨fun j v hv => ?_, fun j hj => ?_⟩⟩
  · rw [hc]; exact (h.2 q hq).1 j v hv
  · rw [hc, hf]; exact (h.2 q hq).2 j hj
theorem sort_both (A : Option Addr) (c : Nat) (l : List S35) (w : World) (base : Nat) (ok : Nat → Prop) (h : Kd.R k35 35 w base ok (.slice A l.length c) l) (hl : l.length ≤ 1000000) (hb : base ≤ w.heap.size) :
    Calls Try.prog 21 #[.slice A l.length c, .func (.func 22) #[] #[]] w fun e w' => e = .returned (.tuple #[]) ∧ Below base w w' ∧ (∀ b W, b < base → But b w' W → Kd.C k35 W A (sortP l).length (sortP l)) := by
  by_cases hn : l = []
  · subst hn
    refine (sort_nil A c _ w).mono ?_
    rintro e w' ⟨he, hb'⟩
    exact ⟨he, hb'.mono hb, fun b W _ _ => C_nilP W A⟩
  · obtain ⟨g, cap, hv, hbg, _, hR⟩ := RowAt.ofR h hn
    injection hv with h1 h2 h3
    subst h1
    refine (sort_any g c 22 cmpP (enters_of Try.func22 (by kernel_rfl) rfl) line2_any l w hR hl).mono ?_
    rintro e w' ⟨he, hR', hb'⟩
    exact ⟨he, hb'.mono hbg, fun b W hbl hbut => (hR'.but hbut (by omega)).reads (by have := sortP_len l; unfold sortP at this; omega)⟩
theorem i64_info : (Try.prog.info? 2).map (fun i => (i.zero, i.size, i.bytes)) = some (some (.int .i64 0), 1, 8) := by kernel_rfl
theorem take_set (ys : List Int) (n : Nat) (v : Int) (h : n < ys.length) : (ys.set n v).take (n + 1) = ys.take n ++ [v] := by
  rw [List.take_succ_eq_append_getElem (by rw [List.length_set]; exact h)]
  congr 1
  · rw [List.take_set_of_le (Nat.le_refl _)]
  · simp
set_option maxRecDepth 100000 in
set_option maxHeartbeats 8000000 in
theorem line_good (a0 a1 : Int) (A1 : Option Addr) (c1 : Nat) (l1 : List S35) (w : World) (hr1 : Kd.C k35 w A1 l1.length l1) (hc1 : l1.length ≤ c1) (h : ¬ (l1.length : Int) > 65536) (h2 : farL a0 a1 = false) (h3 : l1.any farP = false) : Calls Try.prog 10 #[.agg #[.int .i64 a0, .int .i64 a1], .slice A1 l1.length c1] w fun e w' => ∃ v2_ : Value, e = .returned (.tuple #[.agg #[.int .i64 (lineS a0 a1 l1).1, .int .i64 (lineS a0 a1 l1).2], v2_, .int .i64 0]) ∧ Kd.R (Kd.int .i64) 2 w' w.heap.size (fun _ => True) v2_ (l1.map (outP (lineS a0 a1 l1))) ∧ Below w.heap.size w w' := by
  have B2 := Aside0.mk (show ((w.alloc (.cells #[.int .i64 a0, .int .i64 a1] 23 (0, 0))).alloc (.cells #[.int .i64 0, .int .i64 0] 23 (0, 0))).heap[w.heap.size]? = some (.cells #[.int .i64 a0, .int .i64 a1] 23 (0, 0)) from blk_alloc (blk_new w _) _)
  have B4 := Aside0.mk (show ((w.alloc (.cells #[.int .i64 a0, .int .i64 a1] 23 (0, 0))).alloc (.cells #[.int .i64 0, .int .i64 0] 23 (0, 0))).heap[w.heap.size + 1]? = some (.cells #[.int .i64 0, .int .i64 0] 23 (0, 0)) from by have := blk_new (w.alloc (.cells #[.int .i64 a0, .int .i64 a1] 23 (0, 0))) (.cells #[.int .i64 0, .int .i64 0] 23 (0, 0)); rw [World.size_alloc] at this; exact this)
  have HB := Aside0.mk (show Below w.heap.size w ((w.alloc (.cells #[.int .i64 a0, .int .i64 a1] 23 (0, 0))).alloc (.cells #[.int .i64 0, .int .i64 0] 23 (0, 0))) from below_alloc (below_alloc (Below.refl _ _) _) _)
  have HR0 := Aside0.mk hr1
  have HC0 := Aside0.mk hc1
  have hx2_0 := blk_cell B2.out 0
  have hx2_1 := blk_cell B2.out 1
  have hx4_0 := blk_cell B4.out 0
  have hx4_1 := blk_cell B4.out 1
  have hf4_0 := blk_frozen B4.out 0
  have hf4_1 := blk_frozen B4.out 1
  have d1 : decide ((l1.length : Int) > 65536) = false := decide_eq_false h
  have d2 : decide (65536 < (l1.length : Int)) = false := decide_eq_false h
  have HF2 := Aside0.mk (show span_may.f [a0, a1] = some true from by unfold span_may.f; rw [show [a0, a1].any farB = false from h2]; rfl)
  have d3 : l1.any farP = false := h3
  have HL := Aside0.mk (show l1.length ≤ 1000000000000 ∧ l1.length ≤ 1000000 ∧ (l1.length : Int).toNat * 8 ≤ 281474976710656 from ⟨by omega, by omega, by omega⟩)
  obtain ⟨s, hs⟩ : ∃ s, lineS a0 a1 l1 = s := ⟨_, rfl⟩
  rw [hs]
  have HSS := Aside0.mk hs
  clear hr1 hc1 h h2 h3 hs
  go_enter Try.func10, Try.ntmps10
  go_upto_region 3 with (first | ((with_reducible refine gate_dst (N := 20) rfl ?_); (try (refine gate_guard (by rfl) ?_; dsimp only)); refine Kd.R_lit (Kd.int .i64) w.heap.size 2 ?hg (N := 20) ?hd (xs := [a0, a1]) (inner := [.int .i64 a0, .int .i64 a1]) (ok := fun _ => True) (okp := fun _ => True) ?hr ?hp (fun _ hk => hk) trivial HB.out HB.out.size (by simp) ?_; (case hd => rfl); (case hg => rfl); (case hr => first | (go_simp; done) | (go_simp; rfl)); (case hp => exact Kd.reps_scalar [a0, a1]); intro v20 w5 ho hb hg_ hnew_; obtain ⟨A20, c20, hv20, hcc, hrr⟩ := Kd.R_reads ho; subst hv20; have HRR := Aside0.mk hrr; have HCC := Aside0.mk hcc; replace B2 := Aside0.mk ((hg_.block _ (blk_lt B2.out) (by simp)).trans B2.out); replace B4 := Aside0.mk ((hg_.block _ (blk_lt B4.out) (by simp)).trans B4.out); replace HB := Aside0.mk hb; clear ho hb hg_ hnew_ hrr hcc hx2_0 hx2_1 hx4_0 hx4_1 hf4_0 hf4_1) | (go_at_call 15; refine (span_may.calls _ _ [a0, a1] true _ HRR.out HCC.out HF2.out).mono ?_; rintro e w6 ⟨rfl, hb6⟩; replace B2 := Aside0.mk (blk_below B2.out hb6); replace B4 := Aside0.mk (blk_below B4.out hb6); replace HB := Aside0.mk (below_step HB.out hb6); clear hb6 HRR HCC) | (go_at_call 16; refine (hasP_any A1 c1 l1 _ (Kd.C_below HR0.out HB.out)).mono ?_; rintro e w7 ⟨rfl, hb7⟩; replace B2 := Aside0.mk (blk_below B2.out hb7); replace B4 := Aside0.mk (blk_below B4.out hb7); replace HB := Aside0.mk (below_step HB.out hb7); clear hb7))
  have hx2_0 := blk_cell B2.out 0
  have hx2_1 := blk_cell B2.out 1
  clear d1 d2 d3
  go_wp2_with (first | ((with_reducible refine gate_dst (N := 31) rfl ?_); (try (refine gate_guard (by rfl) ?_; dsimp only)); refine box_event ?hg (N := 31) ?hd (cs := #[.int .i64 a0, .int .i64 a1]) (t := 47) ?hr ?_; (case hd => rfl); (case hg => rfl); (case hr => first | (go_simp; done) | (go_simp; rfl)); intro b hg w8 hbox hb; have BV := Aside0.mk hbox; have HLB := Aside0.mk (show w.heap.size + 1 < b from by rw [hg]; exact blk_lt B4.out); replace B4 := Aside0.mk (blk_below B4.out hb); replace HB := Aside0.mk (below_step HB.out hb); clear hb hbox hg hx2_0 hx2_1) | (go_at_call 18; refine (each_any 19 b hasF true A1 c1 l1 (a0, a1) _ (enters_of Try.func19 (by kernel_rfl) rfl) (fun x t0 t1 W hv => has_any b x t0 t1 W hv) (fun W hbut => Kd.C_below HR0.out (But.below (by have := HLB.out; omega) HB.out HB.out.size hbut)) BV.out).mono ?_; rintro e w9 ⟨rfl, hv9, hb9⟩; replace BV := Aside0.mk hv9; replace B4 := Aside0.mk ((hb9.block _ (blk_lt B4.out) (by have := HLB.out; omega)).trans B4.out); replace HB := Aside0.mk (But.below (by have := HLB.out; omega) HB.out HB.out.size hb9); clear hv9 hb9) | (go_at_call 20; refine (api_Part_20.calls A1 c1 l1 l1 _ (Kd.C_below HR0.out HB.out) HC0.out (if_pos HL.out.1)).mono ?_; rintro e w10 ⟨v8, rfl, ho, hb10⟩; obtain ⟨A8, c8, rfl⟩ := Kd.R_slice ho; have HO8 := Aside0.mk ho; have HS9 := Aside0.mk (show b < w9.heap.size ∧ w.heap.size + 1 < w9.heap.size ∧ w.heap.size ≤ w9.heap.size ∧ w9.heap.size ≤ w10.heap.size from ⟨blk_lt BV.out, blk_lt B4.out, HB.out.size, hb10.size⟩); replace BV := Aside0.mk (blk_below BV.out hb10); replace B4 := Aside0.mk (blk_below B4.out hb10); replace HB := Aside0.mk (below_step HB.out hb10); clear ho hb10) | (go_at_call 21; refine (sort_both A8 c8 l1 _ _ _ HO8.out HL.out.2.1 HS9.out.2.2.2).mono ?_; rintro e w11 ⟨rfl, hb11, hrd⟩; have HRD := Aside0.mk hrd; replace BV := Aside0.mk ((hb11.block _ HS9.out.1).trans BV.out); replace B4 := Aside0.mk ((hb11.block _ HS9.out.2.1).trans B4.out); replace HB := Aside0.mk (HB.out.trans (hb11.mono HS9.out.2.2.1)); clear hb11 hrd HO8) | (go_at_call 18; have hc := each_any 25 b hangF false A8 c8 (sortP l1) (eachF hasF true l1 (a0, a1)) _ (enters_of Try.func25 (by kernel_rfl) rfl) (fun x t0 t1 W hv => hangs_any b x t0 t1 W hv) (fun W hbut => HRD.out b W HS9.out.1 hbut) BV.out; rw [sortP_len] at hc; refine hc.mono ?_; clear hc; rintro e w12 ⟨rfl, hv12, hb12⟩; replace BV := Aside0.mk hv12; replace B4 := Aside0.mk ((hb12.block _ (blk_lt B4.out) (by have := HLB.out; omega)).trans B4.out); replace HB := Aside0.mk (But.below (by have := HLB.out; omega) HB.out HB.out.size hb12); clear hv12 hb12 HRD) | ((with_reducible refine gate_dst (N := 46) rfl ?_); (try (refine gate_guard (by rfl) ?_; dsimp only)); refine Kd.R_make (Kd.int .i64) w.heap.size 2 rfl (N := 46) rfl 26 _ _ rfl (l1.length : Int) rfl rfl Try.underlying26 (.int .i64 0) 8 i64_info rfl (by decide) (by omega) 0 (ok := fun _ => True) (okp := fun _ => True) rfl (fun _ hk => hk) trivial (by omega) HL.out.2.2 HB.out HB.out.size ?_; intro v46 w13 ho hb hg_ hnew_; obtain ⟨Ao, co, hv46⟩ := Kd.R_slice ho; rw [List.length_replicate, Int.toNat_natCast] at hv46; subst hv46; have HO := Aside0.mk ho; replace BV := Aside0.mk ((hg_.block _ (blk_lt BV.out) (by simp)).trans BV.out); replace B4 := Aside0.mk ((hg_.block _ (blk_lt B4.out) (by simp)).trans B4.out); replace HB := Aside0.mk hb; clear ho hb hg_ hnew_))
  replace BV := Aside0.mk (show w13.heap[b]? = some (.cells #[.int .i64 (s.1), .int .i64 (s.2)] 47 (0, 0)) from by rw [← HSS.out]; exact BV.out)
  have H0 := Aside0.mk (show (List.replicate (l1.length : Int).toNat (0 : Int)).length = l1.length ∧ (List.replicate (l1.length : Int).toNat (0 : Int)).take (0 : Int).toNat = (l1.map (outP s)).take (0 : Int).toNat from ⟨by simp, by simp⟩)
  generalize List.replicate (l1.length : Int).toNat (0 : Int) = z0 at HO H0
  obtain ⟨n, hn⟩ : ∃ n, l1.length = n := ⟨_, rfl⟩
  rw [hn] at HO ⊢
  have HN := Aside0.mk (show l1.length = n ∧ n ≤ 1000000 from ⟨hn, by have := HL.out; omega⟩)
  clear hn
  go_loopg [49] (n + 1) (fun kq v49 wr => ∃ (x : Int) (ys : List Int), v49 = .int .i64 x ∧ Aside0 (0 ≤ x ∧ x ≤ (n : Int) ∧ x + (kq : Int) = (n : Int) + 1) ∧ Aside0 (ys.length = n ∧ ys.take x.toNat = (l1.map (outP s)).take x.toNat) ∧ Aside0 (Kd.R (Kd.int .i64) 2 wr w.heap.size (fun _ => True) (.slice Ao n co) ys) ∧ Aside0 (wr.heap[b]? = some (.cells #[.int .i64 (s.1), .int .i64 (s.2)] 47 (0, 0))) ∧ Aside0 (wr.heap[w.heap.size + 1]? = some (.cells #[.int .i64 0, .int .i64 0] 23 (0, 0))) ∧ Aside0 (Below w.heap.size w wr))
  case atStart => exact ⟨0, z0, rfl, ⟨by omega⟩, ⟨by rw [← HN.out.1]; exact H0.out⟩, HO, BV, B4, HB⟩
  case round =>
    clear H0 HO BV B4 HB
    obtain ⟨x, ys, rfl, hin, hA, HO, BV, B4, HB⟩ := hrel
    cases gk with
    | zero => have := hin.out; exfalso; omega
    | succ m =>
    by_cases hx : x < (n : Int)
    · have d1 : decide (x < (n : Int)) = true := decide_eq_true hx
      have z1 : 0 ≤ x := hin.out.1
      have hx' : x < (l1.length : Int) := by have := HN.out.1; omega
      obtain ⟨ad0, e0, hx0, hx1, hx2, hx3⟩ := at_T35 (Kd.C_below HR0.out HB.out) x z1 hx'
      cases e0
      have hq0 : l1[x.toNat]? = some (rd_T35 l1 x) := by
        unfold rd_T35
        rw [List.getD_eq_getElem?_getD, List.getElem?_eq_getElem (by omega)]
        rfl
      generalize rd_T35 l1 x = q at hx0 hx1 hx2 hx3 hq0
      have HQ := Aside0.mk hq0
      have e5 : IntKind.i64.wrap (x + 1) = x + 1 := IntWalk.i64_in _ (by have := HN.out; omega)
      obtain ⟨go, co', eo, gbo, _, _, HG⟩ := Kd.R_form HO.out (by have := hA.out.1; omega)
      injection eo with ea en ec
      subst ea
      subst ec
      have HGB := Aside0.mk gbo
      have HI := Aside0.mk hx
      have HIN0 := Aside0.mk (show 0 ≤ x ∧ x < (n : Int) from ⟨z1, hx⟩)
      clear hq0 hx' gbo HG en
      go_wp2_with (first
        | ((with_reducible refine gate_dst (N := 11) rfl ?_); (try (refine gate_guard (by rfl) ?_; dsimp only)); refine box_event ?hg (N := 11) ?hd (cs := #[.int .i64 0, .int .i64 0, .int .i64 0, .int .u8 0]) (t := 35) ?hr ?_; (case hd => rfl); (case hg => rfl); (case hr => first | (go_simp; done) | (go_simp; rfl)); intro gp hg w14 hbox hb; have BP := Aside0.mk hbox; have NE1 := Aside0.mk (show b ≠ gp from by have := blk_lt BV.out; omega); have NE2 := Aside0.mk (show w.heap.size + 1 ≠ gp from by have := blk_lt B4.out; omega); have GEP := Aside0.mk (show wr.heap.size ≤ gp from by omega); replace BV := Aside0.mk (blk_below BV.out hb); replace B4 := Aside0.mk (blk_below B4.out hb); replace HO := Aside0.mk (Kd.R_below HO.out hb); have HWP := Aside0.mk hb; clear hb hbox hg)
        | ((with_reducible refine gate_store (t := 35) (p := 11) (v := .tmp 53) rfl ?_); refine Aside0.out ?_))
      refine Aside0.mk ?_
      refine store_row_event rfl 35 (.tmp 11) (.tmp 53) rfl rfl gp _ rfl rfl 35 _ BP.out (by kernel_rfl) rfl (by simp [Value.oneCell']) ?_
      intro ws hs hk hb
      replace HO := Aside0.mk (Kd.R_mono (Kd.R_keep (Kd.R_types HO.out BP.out (by decide)) hk (fun _ h => h.2)) (ok' := fun _ => True) (fun _ h => h.1))
      replace BP := Aside0.mk hs
      have HW8 := Aside0.mk (hb _ _ GEP.out HWP.out)
      replace BV := Aside0.mk (show ws.heap[b]? = some (.cells #[.int .i64 (s.1), .int .i64 (s.2)] 47 (0, 0)) from hk.blk BV.out NE1.out (by simp))
      replace B4 := Aside0.mk (show ws.heap[w.heap.size + 1]? = some (.cells #[.int .i64 0, .int .i64 0] 23 (0, 0)) from hk.blk B4.out NE2.out (by simp))
      replace HB := Aside0.mk (below_step HB.out HW8.out)
      clear hs hb hk hx0 hx1 hx2 hx3 HWP HW8
      have hp3 := blk_cell BP.out 3
      have hcont : ∀ (v : Int) (W : World), v = outP s q → Kd.R (Kd.int .i64) 2 W w.heap.size (fun _ => True) (.slice (some ⟨go, 0, none⟩) n co) (ys.set x.toNat v) → ((ys.set x.toNat v).length = n ∧ (ys.set x.toNat v).take (x + 1).toNat = (l1.map (outP s)).take (x + 1).toNat) := fun v W hv _ => by
        have h1 := hA.out
        have h2 := HI.out
        refine ⟨by rw [List.length_set]; exact h1.1, ?_⟩
        rw [show (x + 1).toNat = x.toNat + 1 by omega, take_set _ _ _ (by omega), h1.2, hv]
        have h3 : x.toNat < (l1.map (outP s)).length := by rw [List.length_map]; have := HN.out.1; omega
        rw [List.take_succ_eq_append_getElem h3]
        congr 1
        have h4 := HQ.out
        rw [List.getElem_map]
        have h5 : x.toNat < l1.length := by have := HN.out.1; omega
        rw [List.getElem?_eq_getElem h5] at h4
        injection h4 with h4
        rw [h4]
      have HCT := Aside0.mk hcont
      clear hcont
      have p1 : 0 ≤ x := z1
      have q1 : x < (n : Int) := HI.out
      replace p1 := eq_true p1
      replace q1 := eq_true q1
      clear d1 z1
      by_cases he1 : q.f2 = 1
      · have d2 : (q.f2 == 1) = true := beq_iff_eq.2 he1
        have HV := Aside0.mk (show wrap64 (s.1 - q.f0.f0) = outP s q from by unfold outP; rw [if_pos he1])
        clear he1
        go_wp2_with fail
        replace BV := Aside0.mk (blk_drew BV.out)
        replace B4 := Aside0.mk (blk_drew B4.out)
        replace BP := Aside0.mk (blk_drew BP.out)
        replace HO := Aside0.mk (Kd.R_drew HO.out)
        replace HB := Aside0.mk (below_drew1 HB.out)
        refine start_ (n := 13) (S := fun w' => w'.cell? ⟨b, 0, none⟩ = some (.int .i64 s.1) ∧ w'.cell? ⟨gp, 0, none⟩ = some (.int .i64 q.f0.f0)) (ds := [12]) #[false, false, false, false, false, false, false, false, false, false, false, false, false] (by kernel_rfl) rfl rfl ⟨blk_cell BV.out 0, blk_cell BP.out 0⟩ (fun hHeld => ?_)
        generalize ws.drew = w15 at BV B4 BP HO HB hHeld ⊢
        refine pure_ (i := 0) (N := some 63) (v := ?_) (a' := ?_) #[true, false, false, false, false, false, false, false, false, false, false, false, false] rfl rfl (by kernel_rfl) (fun _ _ _ h => h) (Or.inl ⟨by rfl, ?_⟩) ?_ ?_
        rotate_left; (focus intro w'; go_simp; with_reducible rfl); rotate_left; (focus simp only [Act.put, List.setIfInBounds_toArray, List.set_cons_zero, List.set_cons_succ, i64_w, i32_w]; rfl)
        refine pure_ (i := 1) (N := some 64) (v := ?_) (a' := ?_) #[true, true, false, false, false, false, false, false, false, false, false, false, false] rfl rfl (by kernel_rfl) (fun _ _ _ h => h) (Or.inl ⟨by rfl, ?_⟩) ?_ ?_
        rotate_left; (focus intro w'; go_simp; with_reducible rfl); rotate_left; (focus simp only [Act.put, List.setIfInBounds_toArray, List.set_cons_zero, List.set_cons_succ, i64_w, i32_w]; rfl)
        refine pure_ (i := 2) (N := some 65) (v := ?_) (a' := ?_) #[true, true, true, false, false, false, false, false, false, false, false, false, false] rfl rfl (by kernel_rfl) (fun _ _ _ h => h) (Or.inl ⟨by rfl, ?_⟩) ?_ ?_
        rotate_left; (focus intro w'; go_simp; with_reducible rfl); rotate_left; (focus simp only [Act.put, List.setIfInBounds_toArray, List.set_cons_zero, List.set_cons_succ, i64_w, i32_w]; rfl)
        refine pure_ (i := 3) (N := some 66) (v := ?_) (a' := ?_) #[true, true, true, true, false, false, false, false, false, false, false, false, false] rfl rfl (by kernel_rfl) (fun _ _ _ h => h) (Or.inl ⟨by rfl, ?_⟩) ?_ ?_
        rotate_left; (focus intro w'; go_simp; with_reducible rfl); rotate_left; (focus simp only [Act.put, List.setIfInBounds_toArray, List.set_cons_zero, List.set_cons_succ, i64_w, i32_w]; rfl)
        refine pure_ (i := 4) (N := some 67) (v := ?_) (a' := ?_) #[true, true, true, true, true, false, false, false, false, false, false, false, false] rfl rfl (by kernel_rfl) (fun _ _ _ h => h) (Or.inl ⟨by rfl, ?_⟩) ?_ ?_
        rotate_left; (focus intro w'; go_simp; with_reducible rfl); rotate_left; (focus simp only [Act.put, List.setIfInBounds_toArray, List.set_cons_zero, List.set_cons_succ, i64_w, i32_w]; rfl)
        refine pure_ (i := 5) (N := some 68) (v := ?_) (a' := ?_) #[true, true, true, true, true, true, false, false, false, false, false, false, false] rfl rfl (by kernel_rfl) (fun _ _ _ h => h) (Or.inl ⟨by rfl, ?_⟩) ?_ ?_
        rotate_left; (focus intro w'; go_simp; with_reducible rfl); rotate_left; (focus simp only [Act.put, List.setIfInBounds_toArray, List.set_cons_zero, List.set_cons_succ, i64_w, i32_w]; rfl)
        refine pure_ (i := 7) (N := some 70) (v := ?_) (a' := ?_) #[true, true, true, true, true, true, false, true, false, false, false, false, false] rfl rfl (by kernel_rfl) (fun _ _ _ h => h) (Or.inl ⟨by rfl, ?_⟩) ?_ ?_
        rotate_left; (focus intro w'; go_simp; with_reducible rfl); rotate_left; (focus simp only [Act.put, List.setIfInBounds_toArray, List.set_cons_zero, List.set_cons_succ, i64_w, i32_w]; rfl)
        refine pure_ (i := 8) (N := some 71) (v := ?_) (a' := ?_) #[true, true, true, true, true, true, false, true, true, false, false, false, false] rfl rfl (by kernel_rfl) (fun _ _ _ h => h) (Or.inl ⟨by rfl, ?_⟩) ?_ ?_
        rotate_left; (focus intro w'; go_simp; with_reducible rfl); rotate_left; (focus simp only [Act.put, List.setIfInBounds_toArray, List.set_cons_zero, List.set_cons_succ, i64_w, i32_w]; rfl)
        refine take_ (i := 6) (N := some 69) (v := ?_) (a' := ?_) #[true, true, true, true, true, true, true, true, true, false, false, false, false] rfl rfl (by kernel_rfl) (fun _ _ _ h => h) (Or.inl ⟨by rfl, ?_⟩) hHeld ?_ ?_
        rotate_left; (focus rintro w' ⟨s0, s1⟩; go_simp; with_reducible rfl); rotate_left; (focus simp only [Act.put, List.setIfInBounds_toArray, List.set_cons_zero, List.set_cons_succ, i64_w, i32_w]; rfl)
        refine take_ (i := 9) (N := some 72) (v := ?_) (a' := ?_) #[true, true, true, true, true, true, true, true, true, true, false, false, false] rfl rfl (by kernel_rfl) (fun _ _ _ h => h) (Or.inl ⟨by rfl, ?_⟩) hHeld ?_ ?_
        rotate_left; (focus rintro w' ⟨s0, s1⟩; go_simp; with_reducible rfl); rotate_left; (focus simp only [Act.put, List.setIfInBounds_toArray, List.set_cons_zero, List.set_cons_succ, i64_w, i32_w]; rfl)
        refine pure_ (i := 10) (N := some 73) (v := ?_) (a' := ?_) #[true, true, true, true, true, true, true, true, true, true, true, false, false] rfl rfl (by kernel_rfl) (fun _ _ _ h => h) (Or.inl ⟨by rfl, ?_⟩) ?_ ?_
        rotate_left; (focus intro w'; go_simp; with_reducible rfl); rotate_left; (focus simp only [Act.put, List.setIfInBounds_toArray, List.set_cons_zero, List.set_cons_succ, i64_w, i32_w]; rfl)
        refine pure_ (i := 11) (N := some 74) (v := ?_) (a' := ?_) #[true, true, true, true, true, true, true, true, true, true, true, true, false] rfl rfl (by kernel_rfl) (fun _ _ _ h => h) (Or.inl ⟨by rfl, ?_⟩) ?_ ?_
        rotate_left; (focus intro w'; go_simp; with_reducible rfl); rotate_left; (focus simp only [Act.put, List.setIfInBounds_toArray, List.set_cons_zero, List.set_cons_succ, i64_w, i32_w]; rfl)
        obtain ⟨hxo, hfo⟩ := Kd.R_celln 0 HO.out x HIN0.out.1 HI.out
        have NB := Aside0.mk (show b ≠ go from fun h => Kd.R_ne HO.out BV.out (by decide) (by rw [h]; rfl))
        have N4 := Aside0.mk (show w.heap.size + 1 ≠ go from fun h => Kd.R_ne HO.out B4.out (by decide) (by rw [h]; rfl))
        refine last_ (i := 12) (N := none) #[true, true, true, true, true, true, true, true, true, true, true, true, true] rfl rfl (by kernel_rfl) (by decide) (fun K hK => ?_)
        refine skip_ (w1 := ?_) (by rfl) rfl ?_ ?_
        rotate_left; (focus go_simp; rfl)
        refine hK.out _ _ ?_
        clear hK K
        refine done_ (by kernel_rfl) ?_
        try simp only [Exit.then]
        clear hHeld hxo hfo
        replace HO := Aside0.mk (Kd.R_putn HO.out x (wrap64 (s.1 - q.f0.f0)))
        replace BV := Aside0.mk (blk_far (p := ⟨go, x.toNat, none⟩) BV.out NB.out (.int .i64 (wrap64 (s.1 - q.f0.f0))))
        replace B4 := Aside0.mk (blk_far (p := ⟨go, x.toNat, none⟩) B4.out N4.out (.int .i64 (wrap64 (s.1 - q.f0.f0))))
        replace HB := Aside0.mk (HB.out.setCell (p := ⟨go, x.toNat, none⟩) HGB.out (.int .i64 (wrap64 (s.1 - q.f0.f0))))
        go_wp2_with fail
        go_roundg m
        case measure => omega
        case rel => exact ⟨x + 1, _, rfl, ⟨by have := hin.out; have := HI.out; omega⟩, ⟨HCT.out _ _ HV.out HO.out⟩, HO, BV, B4, HB⟩
      · have d2 : (q.f2 == 1) = false := beq_eq_false_iff_ne.2 he1
        by_cases he2 : q.f2 = 2
        · have d3 : (q.f2 == 2) = true := beq_iff_eq.2 he2
          have HV := Aside0.mk (show wrap64 (q.f0.f1 - s.2) = outP s q from by unfold outP; rw [if_neg he1, if_pos he2])
          clear he1 he2
          go_wp2_with fail
          replace BV := Aside0.mk (blk_drew BV.out)
          replace B4 := Aside0.mk (blk_drew B4.out)
          replace BP := Aside0.mk (blk_drew BP.out)
          replace HO := Aside0.mk (Kd.R_drew HO.out)
          replace HB := Aside0.mk (below_drew1 HB.out)
          refine start_ (n := 13) (S := fun w' => w'.cell? ⟨b, 1, none⟩ = some (.int .i64 s.2) ∧ w'.cell? ⟨gp, 1, none⟩ = some (.int .i64 q.f0.f1)) (ds := [12]) #[false, false, false, false, false, false, false, false, false, false, false, false, false] (by kernel_rfl) rfl rfl ⟨blk_cell BV.out 1, blk_cell BP.out 1⟩ (fun hHeld => ?_)
          generalize ws.drew = w15 at BV B4 BP HO HB hHeld ⊢
          refine pure_ (i := 0) (N := some 77) (v := ?_) (a' := ?_) #[true, false, false, false, false, false, false, false, false, false, false, false, false] rfl rfl (by kernel_rfl) (fun _ _ _ h => h) (Or.inl ⟨by rfl, ?_⟩) ?_ ?_
          rotate_left; (focus intro w'; go_simp; with_reducible rfl); rotate_left; (focus simp only [Act.put, List.setIfInBounds_toArray, List.set_cons_zero, List.set_cons_succ, i64_w, i32_w]; rfl)
          refine pure_ (i := 1) (N := some 78) (v := ?_) (a' := ?_) #[true, true, false, false, false, false, false, false, false, false, false, false, false] rfl rfl (by kernel_rfl) (fun _ _ _ h => h) (Or.inl ⟨by rfl, ?_⟩) ?_ ?_
          rotate_left; (focus intro w'; go_simp; with_reducible rfl); rotate_left; (focus simp only [Act.put, List.setIfInBounds_toArray, List.set_cons_zero, List.set_cons_succ, i64_w, i32_w]; rfl)
          refine pure_ (i := 2) (N := some 79) (v := ?_) (a' := ?_) #[true, true, true, false, false, false, false, false, false, false, false, false, false] rfl rfl (by kernel_rfl) (fun _ _ _ h => h) (Or.inl ⟨by rfl, ?_⟩) ?_ ?_
          rotate_left; (focus intro w'; go_simp; with_reducible rfl); rotate_left; (focus simp only [Act.put, List.setIfInBounds_toArray, List.set_cons_zero, List.set_cons_succ, i64_w, i32_w]; rfl)
          refine pure_ (i := 3) (N := some 80) (v := ?_) (a' := ?_) #[true, true, true, true, false, false, false, false, false, false, false, false, false] rfl rfl (by kernel_rfl) (fun _ _ _ h => h) (Or.inl ⟨by rfl, ?_⟩) ?_ ?_
          rotate_left; (focus intro w'; go_simp; with_reducible rfl); rotate_left; (focus simp only [Act.put, List.setIfInBounds_toArray, List.set_cons_zero, List.set_cons_succ, i64_w, i32_w]; rfl)
          refine pure_ (i := 5) (N := some 82) (v := ?_) (a' := ?_) #[true, true, true, true, false, true, false, false, false, false, false, false, false] rfl rfl (by kernel_rfl) (fun _ _ _ h => h) (Or.inl ⟨by rfl, ?_⟩) ?_ ?_
          rotate_left; (focus intro w'; go_simp; with_reducible rfl); rotate_left; (focus simp only [Act.put, List.setIfInBounds_toArray, List.set_cons_zero, List.set_cons_succ, i64_w, i32_w]; rfl)
          refine pure_ (i := 6) (N := some 83) (v := ?_) (a' := ?_) #[true, true, true, true, false, true, true, false, false, false, false, false, false] rfl rfl (by kernel_rfl) (fun _ _ _ h => h) (Or.inl ⟨by rfl, ?_⟩) ?_ ?_
          rotate_left; (focus intro w'; go_simp; with_reducible rfl); rotate_left; (focus simp only [Act.put, List.setIfInBounds_toArray, List.set_cons_zero, List.set_cons_succ, i64_w, i32_w]; rfl)
          refine pure_ (i := 7) (N := some 84) (v := ?_) (a' := ?_) #[true, true, true, true, false, true, true, true, false, false, false, false, false] rfl rfl (by kernel_rfl) (fun _ _ _ h => h) (Or.inl ⟨by rfl, ?_⟩) ?_ ?_
          rotate_left; (focus intro w'; go_simp; with_reducible rfl); rotate_left; (focus simp only [Act.put, List.setIfInBounds_toArray, List.set_cons_zero, List.set_cons_succ, i64_w, i32_w]; rfl)
          refine pure_ (i := 8) (N := some 85) (v := ?_) (a' := ?_) #[true, true, true, true, false, true, true, true, true, false, false, false, false] rfl rfl (by kernel_rfl) (fun _ _ _ h => h) (Or.inl ⟨by rfl, ?_⟩) ?_ ?_
          rotate_left; (focus intro w'; go_simp; with_reducible rfl); rotate_left; (focus simp only [Act.put, List.setIfInBounds_toArray, List.set_cons_zero, List.set_cons_succ, i64_w, i32_w]; rfl)
          refine take_ (i := 4) (N := some 81) (v := ?_) (a' := ?_) #[true, true, true, true, true, true, true, true, true, false, false, false, false] rfl rfl (by kernel_rfl) (fun _ _ _ h => h) (Or.inl ⟨by rfl, ?_⟩) hHeld ?_ ?_
          rotate_left; (focus rintro w' ⟨s0, s1⟩; go_simp; with_reducible rfl); rotate_left; (focus simp only [Act.put, List.setIfInBounds_toArray, List.set_cons_zero, List.set_cons_succ, i64_w, i32_w]; rfl)
          refine take_ (i := 9) (N := some 86) (v := ?_) (a' := ?_) #[true, true, true, true, true, true, true, true, true, true, false, false, false] rfl rfl (by kernel_rfl) (fun _ _ _ h => h) (Or.inl ⟨by rfl, ?_⟩) hHeld ?_ ?_
          rotate_left; (focus rintro w' ⟨s0, s1⟩; go_simp; with_reducible rfl); rotate_left; (focus simp only [Act.put, List.setIfInBounds_toArray, List.set_cons_zero, List.set_cons_succ, i64_w, i32_w]; rfl)
          refine pure_ (i := 10) (N := some 87) (v := ?_) (a' := ?_) #[true, true, true, true, true, true, true, true, true, true, true, false, false] rfl rfl (by kernel_rfl) (fun _ _ _ h => h) (Or.inl ⟨by rfl, ?_⟩) ?_ ?_
          rotate_left; (focus intro w'; go_simp; with_reducible rfl); rotate_left; (focus simp only [Act.put, List.setIfInBounds_toArray, List.set_cons_zero, List.set_cons_succ, i64_w, i32_w]; rfl)
          refine pure_ (i := 11) (N := some 88) (v := ?_) (a' := ?_) #[true, true, true, true, true, true, true, true, true, true, true, true, false] rfl rfl (by kernel_rfl) (fun _ _ _ h => h) (Or.inl ⟨by rfl, ?_⟩) ?_ ?_
          rotate_left; (focus intro w'; go_simp; with_reducible rfl); rotate_left; (focus simp only [Act.put, List.setIfInBounds_toArray, List.set_cons_zero, List.set_cons_succ, i64_w, i32_w]; rfl)
          obtain ⟨hxo, hfo⟩ := Kd.R_celln 0 HO.out x HIN0.out.1 HI.out
          have NB := Aside0.mk (show b ≠ go from fun h => Kd.R_ne HO.out BV.out (by decide) (by rw [h]; rfl))
          have N4 := Aside0.mk (show w.heap.size + 1 ≠ go from fun h => Kd.R_ne HO.out B4.out (by decide) (by rw [h]; rfl))
          refine last_ (i := 12) (N := none) #[true, true, true, true, true, true, true, true, true, true, true, true, true] rfl rfl (by kernel_rfl) (by decide) (fun K hK => ?_)
          refine skip_ (w1 := ?_) (by rfl) rfl ?_ ?_
          rotate_left; (focus go_simp; rfl)
          refine hK.out _ _ ?_
          clear hK K
          refine done_ (by kernel_rfl) ?_
          try simp only [Exit.then]
          clear hHeld hxo hfo
          replace HO := Aside0.mk (Kd.R_putn HO.out x (wrap64 (q.f0.f1 - s.2)))
          replace BV := Aside0.mk (blk_far (p := ⟨go, x.toNat, none⟩) BV.out NB.out (.int .i64 (wrap64 (q.f0.f1 - s.2))))
          replace B4 := Aside0.mk (blk_far (p := ⟨go, x.toNat, none⟩) B4.out N4.out (.int .i64 (wrap64 (q.f0.f1 - s.2))))
          replace HB := Aside0.mk (HB.out.setCell (p := ⟨go, x.toNat, none⟩) HGB.out (.int .i64 (wrap64 (q.f0.f1 - s.2))))
          go_wp2_with fail
          go_roundg m
          case measure => omega
          case rel => exact ⟨x + 1, _, rfl, ⟨by have := hin.out; have := HI.out; omega⟩, ⟨HCT.out _ _ HV.out HO.out⟩, HO, BV, B4, HB⟩
        · have d3 : (q.f2 == 2) = false := beq_eq_false_iff_ne.2 he2
          have HV := Aside0.mk (show q.f1 = outP s q from by unfold outP; rw [if_neg he1, if_neg he2])
          have hp2 := blk_cell BP.out 2
          obtain ⟨hxo, hfo⟩ := Kd.R_celln 0 HO.out x HIN0.out.1 HI.out
          have NB := Aside0.mk (show b ≠ go from fun h => Kd.R_ne HO.out BV.out (by decide) (by rw [h]; rfl))
          have N4 := Aside0.mk (show w.heap.size + 1 ≠ go from fun h => Kd.R_ne HO.out B4.out (by decide) (by rw [h]; rfl))
          clear he1 he2
          go_wp2_with fail
          replace HO := Aside0.mk (Kd.R_putn HO.out x q.f1)
          replace BV := Aside0.mk (blk_far (p := ⟨go, x.toNat, none⟩) BV.out NB.out (.int .i64 q.f1))
          replace B4 := Aside0.mk (blk_far (p := ⟨go, x.toNat, none⟩) B4.out N4.out (.int .i64 q.f1))
          replace HB := Aside0.mk (HB.out.setCell (p := ⟨go, x.toNat, none⟩) HGB.out (.int .i64 q.f1))
          go_roundg m
          case measure => omega
          case rel => exact ⟨x + 1, _, rfl, ⟨by have := hin.out; have := HI.out; omega⟩, ⟨HCT.out _ _ HV.out HO.out⟩, HO, BV, B4, HB⟩
    · have d1 : decide (x < (n : Int)) = false := decide_eq_false hx
      have he : ys = l1.map (outP s) := by
        have h1 := hA.out.2
        have := hA.out.1
        have := HN.out.1
        rw [List.take_of_length_le (by omega), List.take_of_length_le (by rw [List.length_map]; omega)] at h1
        exact h1
      rw [he] at HO
      have HX := Aside0.mk hx
      clear he hA hx
      have hx2_0 := blk_cell BV.out 0
      have hx2_1 := blk_cell BV.out 1
      have hx4_0 := blk_cell B4.out 0
      have hx4_1 := blk_cell B4.out 1
      have hf4_0 := blk_frozen B4.out 0
      have hf4_1 := blk_frozen B4.out 1
      go_wp2_with fail
      (try simp only [Exit.inBlock, Exit.then]); refine bodyPost_ret (line_res _ _ (w.heap.size + 1) s.1 s.2 _ _ rfl rfl rfl (blk_put (blk_put B4.out 0 (.int .i64 s.1) rfl) 1 (.int .i64 s.2) rfl)) rfl ?_
      exact ⟨_, rfl, Kd.R_set (Kd.R_set HO.out B4.out (by decide) 0 _) (blk_put B4.out 0 (.int .i64 s.1) rfl) (by decide) 1 _, (HB.out.setCell (p := ⟨w.heap.size + 1, 0, none⟩) (by simp) _).setCell (p := ⟨w.heap.size + 1, 1, none⟩) (by simp) _⟩
theorem span_Line.calls (a0_0 a0_1 : Int) (A1 : Option Addr) (c1 : Nat) (l1 : List (S35)) (r1 r2 : Int) (r3 : List Int) (r4 : Int) (w : World) (hr1 : Kd.C k35 w A1 l1.length l1) (hc1 : l1.length ≤ c1) (h : span_Line.f a0_0 a0_1 l1 = some (r1, r2, r3, r4)) :
    Calls Try.prog 10 #[.agg #[.int .i64 a0_0, .int .i64 a0_1], .slice A1 l1.length c1] w fun e w' => ∃ v2_ : Value, e = .returned (.tuple #[.agg #[.int .i64 r1, .int .i64 r2], v2_, .int .i64 r4]) ∧ Kd.R (Kd.int .i64) 2 w' w.heap.size (fun _ => True) v2_ r3 ∧ Below w.heap.size w w' := by
  unfold span_Line.f at h
  by_cases h1 : (l1.length : Int) > 65536
  · rw [if_pos (.inl h1)] at h
    obtain ⟨rfl, rfl, rfl, rfl⟩ := by simpa using h
    exact (line_bad1 a0_0 a0_1 A1 c1 l1 w hr1 hc1 h1).mono (line_zero w)
  · cases h2 : farL a0_0 a0_1 with
    | true =>
      rw [if_pos (.inr (.inl h2))] at h
      obtain ⟨rfl, rfl, rfl, rfl⟩ := by simpa using h
      exact (line_bad2 a0_0 a0_1 A1 c1 l1 w hr1 hc1 h1 h2).mono (line_zero w)
    | false =>
      cases h3 : l1.any farP with
      | true =>
        rw [if_pos (.inr (.inr h3))] at h
        obtain ⟨rfl, rfl, rfl, rfl⟩ := by simpa using h
        exact (line_bad3 a0_0 a0_1 A1 c1 l1 w hr1 hc1 h1 h2 h3).mono (line_zero w)
      | false =>
        rw [if_neg (fun hh => by rcases hh with hh | hh | hh; exact h1 hh; rw [h2] at hh; cases hh; rw [h3] at hh; cases hh)] at h
        obtain ⟨rfl, rfl, rfl, rfl⟩ := by simpa using h
        exact line_good a0_0 a0_1 A1 c1 l1 w hr1 hc1 h1 h2 h3
end

end Go.Proofs.Ytfcdljnjhljjgaa.HSpan
