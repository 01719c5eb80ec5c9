-- Written by this claim's own program over the kit's print.
import Derived.Test.YtkegnlidlabjeaaHIntrx0
import Derived.Test.YtkegnlidlabjeaaHIntrx10
import Derived.Test.YtkegnlidlabjeaaHand3
import Derived.Test.YtkegnlidlabjeaaHand4
import Derived.StillTailTactics
import Derived.Laws.Externs
import Derived.BigFrameIn
import Derived.Lib.Hide
import Derived.Test.YtkegnlidlabjeaaHand8
import Derived.Sort.LoopGhostIn
import Derived.BigQuiet
namespace Go.Proofs.Ytkegnlidlabjeaa.HIntr
open Go.RowKit Go.Proofs.YtkegnlidlabjeaaW.PrintWords Go.Proofs.YtkegnlidlabjeaaW.PrintLast Go.Proofs.YtkegnlidlabjeaaW.PrintMore
attribute [local go_sem] max2_int min2_int max_two min_two max_three min_three max_four min_four   -- for this text's walks alone
set_option linter.unusedVariables false
set_option linter.unusedSimpArgs false

-- BY HAND: function 29
section
open Go.Proofs.Ytkegnlidlabjeaa.Hand
def softB (c : S35) : Bool := c.f4 || c.f5
def neverB (_ : S35) : Bool := false
theorem soft_any (c : S35) (w : World) : Calls Try.prog 46 #[.agg #[.int .u8 c.f0, .int .i64 c.f1, .int .i64 c.f2, .int .i64 c.f3, .bool c.f4, .bool c.f5]] w fun e w' => e = .returned (.bool (softB c)) ∧ Below w.heap.size w w' :=
  intrinsic_soft.calls c.f0 c.f1 c.f2 c.f3 c.f4 c.f5 (softB c) w (by unfold intrinsic_soft.f softB; cases c.f4 <;> rfl)
theorem never_any (c : S35) (w : World) : Calls Try.prog 47 #[.agg #[.int .u8 c.f0, .int .i64 c.f1, .int .i64 c.f2, .int .i64 c.f3, .bool c.f4, .bool c.f5]] w fun e w' => e = .returned (.bool (neverB c)) ∧ Below w.heap.size w w' :=
  intrinsic_never.calls c.f0 c.f1 c.f2 c.f3 c.f4 c.f5 (neverB c) w rfl
theorem parts_any (A : Option Addr) (n c : Nat) (fv : Value) (w : World) (hf : fv.oneCell' = true) : Calls Try.prog 45 #[.slice A n c, fv] w fun e w' =>
    e = .returned (.func (.func 55) #[] #[.pointer (some ⟨w.heap.size, 0, none⟩), .pointer (some ⟨w.heap.size + 1, 0, none⟩)]) ∧
      (w.alloc (.cells #[.slice A n c] 22)).alloc (.cells #[fv] 57) = w' := by
  cases fv <;> first | (simp [Value.oneCell'] at hf; done) | skip
  all_goals
    go_enter Try.func45, Try.ntmps45
    go_wp2
    go_ret
    exact ⟨rfl, rfl⟩
/-- Where a part that begins somewhere ends. -/
def endP (l : List S35) (p : S35 → Bool) : Nat → Int → Int
  | 0, t => t
  | n + 1, t => if t < (l.length : Int) ∧ (rd_T35 l (t - 1)).f0 ≠ 5 ∧ p (rd_T35 l t) = false then endP l p n (t + 1) else t
/-- The parts from a place on. -/
def partsL (l : List S35) (p : S35 → Bool) : Nat → Int → List S50
  | 0, _ => []
  | n + 1, i => if i < (l.length : Int) then ⟨i, endP l p (l.length + 1) (i + 1)⟩ :: partsL l p n (endP l p (l.length + 1) (i + 1)) else []
theorem endP_ge (l : List S35) (p : S35 → Bool) : ∀ (n : Nat) (t : Int), t ≤ (l.length : Int) → t ≤ endP l p n t ∧ endP l p n t ≤ (l.length : Int)
  | 0, t, h => ⟨Int.le_refl _, h⟩
  | n + 1, t, h => by
    unfold endP
    split
    · rename_i hc
      have := endP_ge l p n (t + 1) (by omega)
      omega
    · exact ⟨Int.le_refl _, h⟩
theorem Kc35 {W W' : World} {x : S35} {cs : List Value} (h : k35.K W x cs) : k35.K W' x cs := by rw [k35_open h]; exact k35_mk W' x
/-- A function value that tells whether a cell is so, in whatever world keeps what it has captured. -/
def CutFn (gi n₀ : Nat) (cap : Array Value) (Bs : List Nat) (p : S35 → Bool) (w : World) : Prop :=
  ∀ (c : S35) (W : World), KeepI n₀ Bs w W → Calls Try.prog gi (#[.agg #[.int .u8 c.f0, .int .i64 c.f1, .int .i64 c.f2, .int .i64 c.f3, .bool c.f4, .bool c.f5]] ++ cap) W fun e W' => e = .returned (.bool (p c)) ∧ Below W.heap.size W W'
set_option maxRecDepth 100000 in
set_option maxHeartbeats 4000000 in
theorem parts_iter (Bl Bf n₀ gi : Nat) (cap : Array Value) (Bs : List Nat) (p : S35 → Bool) (A0 : Option Addr) (c0 : Nat) (l0 : List S35) (w : World)
    (hl : Boxed w Bl 22 (.slice A0 l0.length c0)) (hf : Boxed w Bf 57 (.func (.func gi) #[] cap))
    (h0 : Kd.C k35 w A0 l0.length l0) (hn0 : ∀ ad, A0 = some ad → 0 < l0.length → ad.block < n₀) (hlB : Bl ∈ Bs) (hfB : Bf ∈ Bs)
    (heg : ∀ args w, (callFunc gi args).run Try.prog w = .ok (.enter gi args) w) (hp : CutFn gi n₀ cap Bs p w) :
    IterS Try.prog 55 #[.pointer (some ⟨Bl, 0, none⟩), .pointer (some ⟨Bf, 0, none⟩)] (fun x : S50 => #[.agg #[.int .i64 x.f0, .int .i64 x.f1]]) n₀ Bs (partsL l0 p (l0.length + 1) 0) w := by
  intro l J Jx W hW hJ hJx hY hJ0
  have q0 := Kd.C_below h0 hW
  have hmx : l0.length ≤ 9223372036854775807 := h0.2.1
  have rl := Aside0.mk (boxed_below hl hW)
  have rf := Aside0.mk (boxed_below hf hW)
  have HP := Aside0.mk hp
  generalize hxs : partsL l0 p (l0.length + 1) 0 = xs at hY ⊢
  have HXS := Aside0.mk hxs
  clear hxs hp
  show CallsIn Fence.wide 8 Try.prog 55 #[.func (.yield l) #[] #[], .pointer (some ⟨Bl, 0, none⟩), .pointer (some ⟨Bf, 0, none⟩)] W _
  refine callsIn_of_wp Try.func55 rfl trivial ?_ rfl
  simp only [Try.ntmps55, List.size_toArray, List.length_cons, List.length_nil, Nat.reduceAdd, Nat.reduceSub, Array.replicate_succ, Array.replicate_zero, List.push_toArray, List.append_toArray, List.nil_append, List.cons_append]
  gi_wp2
  gi_loopg [4] (l0.length + 1) (fun kq v4 wr => ∃ (i : Int) (pre rest : List S50), v4 = .int .i64 i ∧ Aside0 (xs = pre ++ rest) ∧ Aside0 (partsL l0 p kq i = rest) ∧ Aside0 (0 ≤ i ∧ i ≤ (l0.length : Int) ∧ (l0.length : Int) - i < kq) ∧ Aside0 (J pre wr) ∧ Aside0 (KeepI n₀ Bs W wr))
  case atStart => exact ⟨0, [], xs, rfl, ⟨rfl⟩, HXS, ⟨by omega, by omega, by omega⟩, ⟨hJ0⟩, ⟨KeepI.refl _ _ _⟩⟩
  case round =>
    clear HXS hJ0
    obtain ⟨i, pre, rest, rfl, hx, hr, hin, hJs, hK⟩ := hrel
    rename World => wo
    cases gk with
    | zero => have := hin.out; exfalso; omega
    | succ m =>
    have cl := (boxed_keepI rl.out hK.out (.inr hlB)).cell
    by_cases hi : i < (l0.length : Int)
    · have d1 : decide (i < (l0.length : Int)) = true := decide_eq_true hi
      have e1 : IntKind.i64.wrap (i + 1) = i + 1 := IntWalk.i64_in _ (by have := hin.out; omega)
      have hr2 := hr.out
      simp only [partsL] at hr2
      rw [if_pos hi] at hr2
      generalize hte : endP l0 p (l0.length + 1) (i + 1) = te at hr2
      have HTE := Aside0.mk hte
      have HR2 := Aside0.mk hr2
      have HI := Aside0.mk hi
      clear hte hr2 hi
      gi_wp2
      rename_i K hK_
      have HK := Lib.hid hK_
      clear hK_
      have HT : ∀ (v6 v7 v8 v9 v10 v11 v12 v13 v14 v15 v16 v17 v18 v19 v20 v21 v22 v23 v24 v25 v26 v27 v28 v29 v30 v31 v32 v33 v34 v35 v36 v37 v38 v39 v40 v41 v42 : Value) (tz : Int) (W2 : World), te = tz → Below wo.heap.size wo W2 → K { tmps := #[.func (.yield l) #[] #[], .pointer (some ⟨Bl, 0, none⟩), .pointer (some ⟨Bf, 0, none⟩), undef, .int .i64 i, .int .i64 tz, v6, v7, v8, v9, v10, v11, v12, v13, v14, v15, v16, v17, v18, v19, v20, v21, v22, v23, v24, v25, v26, v27, v28, v29, v30, v31, v32, v33, v34, v35, v36, v37, v38, v39, v40, v41, v42], defers := [] } W2 := by
        intro v6 v7 v8 v9 v10 v11 v12 v13 v14 v15 v16 v17 v18 v19 v20 v21 v22 v23 v24 v25 v26 v27 v28 v29 v30 v31 v32 v33 v34 v35 v36 v37 v38 v39 v40 v41 v42 tz W2 hz hb2
        subst hz
        refine HK.out _ _ ?_
        clear HK
        have hx2 := hx.out
        rw [← HR2.out] at hx2
        have HX2 := Aside0.mk hx2
        have hJ5 := hJ _ _ _ hJs.out hb2
        clear hx2 cl
        gi_wp2
        obtain ⟨fn, tmps, assign, body, hy, hR⟩ := hY pre ⟨i, te⟩ (partsL l0 p m te) W2 HX2.out hJ5
        try dsimp only at hy
        rw [hy]
        clear hy
        gi_wp2
        refine hR.mono ?_
        rintro e_ W3 (⟨rfl, hJ3, hk3⟩ | ⟨rfl, hJx3⟩)
        · gi_wp2
          go_roundg m
          case measure => omega
          case rel => exact ⟨te, pre ++ [⟨i, te⟩], partsL l0 p m te, rfl, ⟨by rw [HX2.out]; simp⟩, ⟨rfl⟩, ⟨by have := hin.out; have := HI.out; have := endP_ge l0 p (l0.length + 1) (i + 1) (by omega); have := HTE.out; omega⟩, ⟨hJ3⟩, ⟨(hK.out.below hb2).trans hk3⟩⟩
        · gi_wp2
          refine bodyPost_ret (results_none rfl _ _ _) rfl ?_
          exact ⟨⟨_, rfl⟩, .inr hJx3⟩
      gi_loopg [5] (l0.length + 1) (fun kq v5 wq => ∃ (t : Int), v5 = .int .i64 t ∧ Aside0 (endP l0 p kq t = te) ∧ Aside0 (i + 1 ≤ t ∧ t ≤ (l0.length : Int) ∧ (l0.length : Int) - t < kq) ∧ Aside0 (Below wo.heap.size wo wq))
      case atStart => exact ⟨i + 1, rfl, HTE, ⟨by have := hin.out; have := HI.out; omega⟩, ⟨Below.refl _ _⟩⟩
      case round =>
        obtain ⟨t, rfl, ht, htb, hbw⟩ := hrel
        cases gk with
        | zero => have := htb.out; exfalso; omega
        | succ m2 =>
        have hKq := Aside0.mk (hK.out.below hbw.out)
        have clq := (boxed_keepI rl.out hKq.out (.inr hlB)).cell
        have cfq := (boxed_keepI rf.out hKq.out (.inr hfB)).cell
        have qq := Aside0.mk (C_keepI Kc35 q0 hn0 hKq.out)
        have ht2 := ht.out
        simp only [endP] at ht2
        clear ht
        obtain ⟨s, hs⟩ : ∃ s, t - 1 = s := ⟨_, rfl⟩
        have e2 : IntKind.i64.wrap (t - 1) = s := hs ▸ IntWalk.i64_in _ (by have := htb.out; have := hin.out; omega)
        rw [hs] at ht2
        have HS := Aside0.mk hs
        clear hs
        by_cases htl : t < (l0.length : Int)
        · have d2 : decide (t < (l0.length : Int)) = true := decide_eq_true htl
          have z1 : 0 ≤ s := by have := htb.out; have := hin.out; have := HS.out; omega
          have z2 : s < (l0.length : Int) := by have := HS.out; omega
          have z3 : 0 ≤ t := by have := htb.out; have := hin.out; omega
          obtain ⟨ad, rfl, ha0, ha1, ha2, ha3, ha4, ha5⟩ := at_T35 qq.out s z1 z2
          obtain ⟨ad2, hadq, hd0, hd1, hd2, hd3, hd4, hd5⟩ := at_T35 qq.out t z3 htl
          cases hadq
          clear ha1 ha2 ha3 ha4 ha5
          have HC := Aside0.mk (fun (W' : World) (hb : Below wr.heap.size wr W') => HP.out (rd_T35 l0 t) W' (((KeepI.of_below hW).trans hKq.out).below hb))
          generalize hca : rd_T35 l0 s = ca at ha0 ht2
          generalize hcb : rd_T35 l0 t = cb at hd0 hd1 hd2 hd3 hd4 hd5 HC ht2
          clear hca hcb
          by_cases h5 : ca.f0 = 5
          · rw [if_neg (fun hc => hc.2.1 h5)] at ht2
            have d6 : (ca.f0 != 5) = false := bne_eq_false_iff_eq.2 h5
            have HTE2 := Aside0.mk ht2
            clear ht2 HC hd0 hd1 hd2 hd3 hd4 hd5 h5
            refine wpIn_seq_k fun K2 hK2_ => ?_
            have HK2 := Lib.hid hK2_
            clear hK2_
            refine wpIn_seq_k fun K3 hK3_ => ?_
            have HK3 := Lib.hid hK3_
            clear hK3_
            refine wpIn_wide.2 ?_
            go_quiet (fail)
            simp only [Exit.then]
            refine HK3.out _ _ ?_
            clear HK3
            gi_wp2
            exact HT _ _ _ _ _ _ _ _ _ _ _ _ _ _ _ _ _ _ _ _ _ _ _ _ _ _ _ _ _ _ _ _ _ _ _ _ _ _ _ HTE2.out.symm (below_step hbw.out (pw_below_drewN (Below.refl _ _) _))
          · have d6 : (ca.f0 != 5) = true := bne_iff_ne.2 h5
            cases hpc : p cb with
            | true =>
              rw [if_neg (fun hc => by rw [hpc] at hc; exact absurd hc.2.2 (by decide))] at ht2
              rw [hpc] at HC
              have HTE2 := Aside0.mk ht2
              clear hpc ht2
              refine wpIn_seq_k fun K2 hK2_ => ?_
              have HK2 := Lib.hid hK2_
              clear hK2_
              refine wpIn_seq_k fun K3 hK3_ => ?_
              have HK3 := Lib.hid hK3_
              clear hK3_
              refine wpIn_wide.2 ?_
              go_still_tail 19, (by kernel_rfl)
              go_wp2_with fail
              refine (HC.out wr.drew (below_drew1 (Below.refl _ _))).mono ?_
              rintro e_ w5 ⟨rfl, hb⟩
              go_wp2_with fail
              refine HK3.out _ _ ?_
              clear HK3
              gi_wp2
              exact HT _ _ _ _ _ _ _ _ _ _ _ _ _ _ _ _ _ _ _ _ _ _ _ _ _ _ _ _ _ _ _ _ _ _ _ _ _ _ _ HTE2.out.symm (below_step hbw.out (below_step (below_drew1 (Below.refl _ _)) hb))
            | false =>
              rw [if_pos ⟨htl, h5, hpc⟩] at ht2
              rw [hpc] at HC
              have HT2 := Aside0.mk ht2
              have e3 : IntKind.i64.wrap (t + 1) = t + 1 := IntWalk.i64_in _ (by have := htb.out; have := hin.out; omega)
              have HTL := Aside0.mk htl
              clear hpc ht2
              refine wpIn_seq_k fun K2 hK2_ => ?_
              have HK2 := Lib.hid hK2_
              clear hK2_
              refine wpIn_seq_k fun K3 hK3_ => ?_
              have HK3 := Lib.hid hK3_
              clear hK3_
              refine wpIn_wide.2 ?_
              go_still_tail 19, (by kernel_rfl)
              go_wp2_with fail
              refine (HC.out wr.drew (below_drew1 (Below.refl _ _))).mono ?_
              rintro e_ w5 ⟨rfl, hb⟩
              go_wp2_with fail
              refine HK3.out _ _ ?_
              clear HK3
              gi_wp2
              refine HK2.out _ _ ?_
              clear HK2
              gi_wp2
              go_roundg m2
              case measure => omega
              case rel => exact ⟨t + 1, rfl, HT2, ⟨by have := htb.out; have := HTL.out; omega⟩, ⟨below_step hbw.out (below_step (below_drew1 (Below.refl _ _)) hb)⟩⟩
        · have d2 : decide (t < (l0.length : Int)) = false := decide_eq_false htl
          rw [if_neg (fun hc => htl hc.1)] at ht2
          have HTE2 := Aside0.mk ht2
          clear ht2 htl
          refine wpIn_seq_k fun K2 hK2_ => ?_
          have HK2 := Lib.hid hK2_
          clear hK2_
          refine wpIn_seq_k fun K3 hK3_ => ?_
          have HK3 := Lib.hid hK3_
          clear hK3_
          refine wpIn_wide.2 ?_
          go_quiet (fail)
          simp only [Exit.then]
          refine HK3.out _ _ ?_
          clear HK3
          gi_wp2
          exact HT _ _ _ _ _ _ _ _ _ _ _ _ _ _ _ _ _ _ _ _ _ _ _ _ _ _ _ _ _ _ _ _ _ _ _ _ _ _ _ HTE2.out.symm (below_step hbw.out (pw_below_drewN (Below.refl _ _) _))
    · have d1 : decide (i < (l0.length : Int)) = false := decide_eq_false hi
      have hr2 := hr.out
      simp only [partsL] at hr2
      rw [if_neg hi] at hr2
      clear hi
      gi_wp2
      go_end0
      exact ⟨⟨_, rfl⟩, .inl (by rw [hx.out, ← hr2, List.append_nil]; exact hJs.out)⟩
end
section
open Go.Proofs.Ytkegnlidlabjeaa.Hand
attribute [local go_sem] Oper.semAt_some
theorem Bide.aseq (w : World) (B : Nat) (hB : w.heap.size ≤ B) (pre : List S50) : Bide B (fun W => (∃ v, Boxed W w.heap.size 47 v ∧ Kd.R k50 50 W w.heap.size (fun k => w.heap.size < k) v pre) ∧ Below w.heap.size w W) :=
  Bide.and (Bide.ex fun v => Bide.and (Bide.boxed _ _ _) (Bide.row _ _ _ _ _ _)) (Bide.below (Nat.le_refl _) hB)
set_option maxRecDepth 100000 in
set_option maxHeartbeats 4000000 in
theorem append_seq (gf : Nat) (lb : Array Value) (n₀ : Nat) (Bs : List Nat) (xs : List S50) (w : World) (eg : ∀ args w, (callFunc gf args).run Try.prog w = .ok (.enter gf args) w)
    (hit : ∀ W, Below w.heap.size w W → IterS Try.prog gf lb (fun x : S50 => #[.agg #[.int .i64 x.f0, .int .i64 x.f1]]) n₀ Bs xs W) (hn : n₀ ≤ w.heap.size) (hBs : ∀ B ∈ Bs, B < w.heap.size) (hlen : xs.length ≤ 1000000000000) :
    Calls Try.prog 56 #[.slice none 0 0, .func (.func gf) #[] lb] w fun e w' => ∃ v, e = .returned v ∧ Kd.R k50 50 w' w.heap.size (fun _ => True) v xs ∧ Below w.heap.size w w' := by
  have hB : Below w.heap.size w (w.alloc (.cells #[.slice none 0 0] 47)) := (Below.refl _ w).alloc (Nat.le_refl _) _
  have HI := Aside0.mk (hit _ hB)
  have bx := Boxed.new w 47 (.slice none 0 0)
  clear hit
  refine callsIn_wide.1 (callsIn_of_wp_marks (n := 9) Try.func56 rfl trivial (wpIn_wide.2 ?_) rfl)
  simp only [Try.ntmps56, List.size_toArray, List.length_cons, List.length_nil, Nat.reduceAdd, Nat.reduceSub, Array.replicate_succ, Array.replicate_zero, List.push_toArray, List.append_toArray, List.nil_append, List.cons_append]
  go_wp2_with fail
  refine wp_rangeA (gf := gf) (lb := lb) (n₀ := n₀) (Bs := Bs) (Ms := []) rfl eg (IterS.toM HI.out) (fun B hB => by cases hB) (by simp; omega) (fun B hB => by have := hBs B hB; simp; omega) (fun _ => rfl)
    (fun pre W => (∃ v, Boxed W w.heap.size 47 v ∧ Kd.R k50 50 W w.heap.size (fun k => w.heap.size < k) v pre) ∧ Below w.heap.size w W) (fun _ _ => False)
    (fun pre => Bide.aseq w _ (by simp) pre) (fun s W p v _ hp => by cases hp) (fun _ => Bide.never) ⟨⟨_, bx, Kd.R_nil _ _ _ _ _⟩, hB⟩
    (fun x a1 W => ∃ b, w.heap.size + 1 ≤ b ∧ a1 = { tmps := #[.slice none 0 0, .func (.func gf) #[] lb, .pointer (some ⟨w.heap.size, 0, none⟩), undef, .slice none 0 0, .pointer (some ⟨b, 0, none⟩), .func (.func gf) #[] lb, .agg #[.int .i64 x.f0, .int .i64 x.f1], undef, undef, undef, undef, undef], defers := [] } ∧ W.heap[b]? = some (.cells #[.int .i64 x.f0, .int .i64 x.f1] 50 (0, 0)))
    (fun x a => Bide.ex fun b => Bide.and (Bide.const _) (Bide.and (Bide.const _) (Bide.blk _ _ _))) ?assign ?body ?done (fun _ _ _ _ h _ => h.elim)
  case assign =>
    intro l x W K hz hK
    simp only [World.size_alloc] at hz
    gi_wp2
    refine hK _ _ ?_ ⟨W.heap.size, by omega, rfl, ?_⟩
    · exact (Below.refl _ _).alloc (Nat.le_refl _) _
    · exact World.alloc_heap_new _ _
  case body =>
    rintro l pre x rest _ W hx hzW ⟨⟨v, hbo, hrow⟩, hbel⟩ ⟨b, hb, rfl, hblk⟩
    simp only [World.size_alloc] at hzW
    have HX := Aside0.mk hx
    have hlp : pre.length + 1 ≤ xs.length := by rw [HX.out]; simp
    have zl : (pre.length + 1) * 16 ≤ 140737488355328 := by omega
    have zs : w.heap.size ≤ W.heap.size := by omega
    obtain ⟨ys, hys⟩ : ∃ ys, pre ++ [x] = ys := ⟨_, rfl⟩
    have Hys := Aside0.mk hys
    have Hrow := Aside0.mk hrow
    have Hbel := Aside0.mk hbel
    have Hblk := Aside0.mk hblk
    have q0 := hbo.cell
    have q1 := blk_cell hblk 0
    have q2 := blk_cell hblk 1
    clear hys hx hrow hbel hblk
    refine wpIn_block ?_
    refine round_region (fun _ _ h => h) (by rfl) ?_
    go_wp2_with (first | (at_builtin; refine Aside0.out ?_))
    refine Aside0.mk ?_
    refine Kd.R_append k50 (w0 := w) w.heap.size rfl (.tmp 8) (.tmp 10) 47 50 (.agg #[.int .i64 0, .int .i64 0]) 16 rfl Try.underlying47 info50 rfl (by decide) (by omega) v pre x [.int .i64 x.f0, .int .i64 x.f1] (fun k => w.heap.size < k) (fun _ => False) rfl rfl (k50_mkM _ _ _ x) (fun _ hk => hk.elim) (fun k hk => by omega) Hrow.out Hbel.out zs zl ?_
    intro v1 w1 hown1 hb1 hg1 _
    rw [Hys.out] at hown1
    obtain ⟨A1_, c1_, rfl⟩ := Kd.R_slice hown1
    have bo1 : Boxed w1 w.heap.size 47 v := blk_appended hbo Hrow.out hg1 (.inl (by decide))
    have co1 := bo1.cell
    have fo1 := bo1.frozen
    go_wp2_with fail
    have hBs2 : ∀ B ∈ Bs, ¬ (fun k => w.heap.size < k) B ∨ ∃ cs t, W.heap[B]? = some (.cells cs t (0, 0)) ∧ 50 ≠ t := fun B hB => .inl (fun h => by have := hBs B hB; have h2 : w.heap.size < B := h; omega)
    have hT := (Tame.refl n₀ Bs W).appended Hrow.out hg1 hn hBs2
    rw [Hys.out]
    refine ⟨hT.setCell (p := ⟨w.heap.size, 0, none⟩) bo1 hn (fun h => by have h2 : w.heap.size < w.heap.size := hBs _ h; omega) _, ⟨_, bo1.set _, ?_⟩, hb1.setCell (p := ⟨w.heap.size, 0, none⟩) (Nat.le_refl _) _⟩
    exact Kd.R_set hown1 bo1 (by decide) 0 (.slice A1_ ys.length c1_)
  case done =>
    rintro D W hD ⟨⟨v, hbo, hrow⟩, hbel⟩ hK
    have q0 := hbo.cell
    simp only [World.size_alloc] at hD
    go_wp2_with fail
    refine leave_mark hK (leave1 rfl ⟨_, rfl, ?_, below_putObj _ hbel (by omega)⟩)
    exact row_putObj _ (Kd.R_mono hrow (fun _ _ => trivial)) hK rfl
end
section
open Go.Proofs.Ytkegnlidlabjeaa.Hand
set_option maxRecDepth 100000 in
set_option maxHeartbeats 4000000 in
theorem collect_any (gf : Nat) (lb : Array Value) (n₀ : Nat) (Bs : List Nat) (xs : List S50) (w : World) (eg : ∀ args w, (callFunc gf args).run Try.prog w = .ok (.enter gf args) w)
    (hit : ∀ W, Below w.heap.size w W → IterS Try.prog gf lb (fun x : S50 => #[.agg #[.int .i64 x.f0, .int .i64 x.f1]]) n₀ Bs xs W) (hn : n₀ ≤ w.heap.size) (hBs : ∀ B ∈ Bs, B < w.heap.size) (hlen : xs.length ≤ 1000000000000) :
    Calls Try.prog 49 #[.func (.func gf) #[] lb] w fun e w' => ∃ v, e = .returned v ∧ Kd.R k50 50 w' w.heap.size (fun _ => True) v xs ∧ Below w.heap.size w w' := by
  have HA := Aside0.mk (append_seq gf lb n₀ Bs xs w eg hit hn hBs hlen)
  clear hit
  go_enter Try.func49, Try.ntmps49
  go_wp2_with (first | (go_at_call 56; refine HA.out.mono ?_; rintro e_ W5 ⟨v5, rfl, hr5, hb5⟩))
  go_ret
  exact ⟨_, rfl, hr5, hb5⟩
theorem partsL_len (l : List S35) (p : S35 → Bool) : ∀ (n : Nat) (i : Int), (partsL l p n i).length ≤ n
  | 0, _ => Nat.le_refl _
  | n + 1, i => by
    unfold partsL
    split
    · have := partsL_len l p n (endP l p (l.length + 1) (i + 1))
      simp only [List.length_cons]
      omega
    · simp
/-- The iterator that parts has made, in what lies behind the making. -/
theorem made_iter (gi : Nat) (p : S35 → Bool) (A0 : Option Addr) (c0 : Nat) (l0 : List S35) (w : World) (h0 : Kd.C k35 w A0 l0.length l0) (heg : ∀ args w, (callFunc gi args).run Try.prog w = .ok (.enter gi args) w)
    (hp : ∀ (c : S35) (W : World), Calls Try.prog gi #[.agg #[.int .u8 c.f0, .int .i64 c.f1, .int .i64 c.f2, .int .i64 c.f3, .bool c.f4, .bool c.f5]] W fun e W' => e = .returned (.bool (p c)) ∧ Below W.heap.size W W') (w2 : World)
    (hw2 : (w.alloc (.cells #[.slice A0 l0.length c0] 22)).alloc (.cells #[.func (.func gi) #[] #[]] 57) = w2) :
    ∀ W, Below w2.heap.size w2 W → IterS Try.prog 55 #[.pointer (some ⟨w.heap.size, 0, none⟩), .pointer (some ⟨w.heap.size + 1, 0, none⟩)] (fun x : S50 => #[.agg #[.int .i64 x.f0, .int .i64 x.f1]]) w.heap.size [w.heap.size, w.heap.size + 1] (partsL l0 p (l0.length + 1) 0) W := by
  intro W hW
  have b1 := (boxed_new w w.heap.size 22 (.slice A0 l0.length c0) rfl).alloc (.cells #[.func (.func gi) #[] #[]] 57)
  have b2 := boxed_new (w.alloc (.cells #[.slice A0 l0.length c0] 22)) (w.heap.size + 1) 57 (.func (.func gi) #[] #[]) (by simp)
  rw [hw2] at b1 b2
  have hb : Below w.heap.size w w2 := by rw [← hw2]; exact ((Below.refl _ w).alloc (Nat.le_refl _) _).alloc (by simp) _
  exact parts_iter w.heap.size (w.heap.size + 1) w.heap.size gi #[] [w.heap.size, w.heap.size + 1] p A0 c0 l0 W (boxed_below b1 hW) (boxed_below b2 hW) (Kd.C_below (Kd.C_below h0 hb) hW) (block_of_C h0 z35 (by decide)) (by simp) (by simp) heg (fun c W' _ => by simpa using hp c W')
def intrinsic_Lines.f (l0 : List S35) : Option (List S50) := if l0.length ≤ 999999999999 then some (partsL l0 neverB (l0.length + 1) 0) else none
set_option maxRecDepth 100000 in
set_option maxHeartbeats 4000000 in
theorem intrinsic_Lines.calls (A0 : Option Addr) (c0 : Nat) (l0 : List S35) (r : List S50) (w : World) (h0 : Kd.C k35 w A0 l0.length l0) (hc0 : l0.length ≤ c0) (h : intrinsic_Lines.f l0 = some r) :
    Calls Try.prog 29 #[.slice A0 l0.length c0] w fun e w' => ∃ v0_ : Value, e = .returned v0_ ∧ Kd.R k50 50 w' w.heap.size (fun _ => True) v0_ r ∧ Below w.heap.size w w' := by
  have hlen : l0.length ≤ 999999999999 := by
    unfold intrinsic_Lines.f at h
    split at h
    · assumption
    · cases h
  have hres : partsL l0 neverB (l0.length + 1) 0 = r := by
    unfold intrinsic_Lines.f at h
    rw [if_pos hlen] at h
    exact Option.some.inj h
  have HR := Aside0.mk hres
  clear h hres
  go_enter Try.func29, Try.ntmps29
  go_wp2_with (first | (go_at_call 45; refine Aside0.out ?_))
  refine Aside0.mk ?_
  refine (parts_any A0 l0.length c0 (.func (.func 47) #[] #[]) w rfl).mono ?_
  rintro e_ W4 ⟨rfl, hW4⟩
  have HI := Aside0.mk (made_iter 47 neverB A0 c0 l0 w h0 (enters_of Try.func47 (by kernel_rfl) rfl) never_any W4 hW4)
  have hb4 : Below w.heap.size w W4 := by rw [← hW4]; exact ((Below.refl _ w).alloc (Nat.le_refl _) _).alloc (by simp) _
  have hz4 : W4.heap.size = w.heap.size + 2 := by rw [← hW4]; simp
  have HZ := Aside0.mk hz4
  clear hW4 hz4
  go_wp2_with (first | (go_at_call 49; refine Aside0.out ?_))
  refine Aside0.mk ?_
  refine (collect_any 55 _ w.heap.size [w.heap.size, w.heap.size + 1] (partsL l0 neverB (l0.length + 1) 0) W4 (enters_of Try.func55 (by kernel_rfl) rfl) HI.out (by rw [HZ.out]; omega) (fun B hB => by simp at hB; rw [HZ.out]; omega) (by have := partsL_len l0 neverB (l0.length + 1) 0; omega)).mono ?_
  rintro e_ W5 ⟨v5, rfl, hr5, hb5⟩
  rw [HR.out] at hr5
  go_wp2_with fail
  go_ret
  exact ⟨_, rfl, Kd.R_lower hr5 (by rw [HZ.out]; omega), below_step hb4 hb5⟩
end

end Go.Proofs.Ytkegnlidlabjeaa.HIntr
