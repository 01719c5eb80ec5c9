-- Written by this claim's own program over the kit's print.
import Derived.Test.YtkaiibipcnlaiaaHEllWx0
import Derived.Test.YtkaiibipcnlaiaaHEllWx1
import Derived.Test.YtkaiibipcnlaiaaMB
import Derived.StillTailTactics
import Derived.Laws.Externs
import Derived.BigFrameIn
import Derived.Lib.Hide
import Derived.Sort.LoopGhostIn
import Derived.BigQuiet
import Derived.Test.YtkaiibipcnlaiaaHEllWb
namespace Go.Proofs.Ytkaiibipcnlaiaa.HEllW
open Go.RowKit Go.Proofs.YtkaiibipcnlaiaaW.PrintWords Go.Proofs.YtkaiibipcnlaiaaW.PrintLast Go.Proofs.YtkaiibipcnlaiaaW.PrintMore
attribute [local go_sem] max2_int min2_int max_two min_two max_three min_three max_four min_four   -- for this text's walks alone
set_option linter.unusedVariables false
set_option linter.unusedSimpArgs false

-- BY HAND: function 12
section
open Go.Proofs.Ytkaiibipcnlaiaa.Hand
theorem back_any (A : Option Addr) (n c : Nat) (fr te : Int) (fo : Bool) (w : World) : Calls Try.prog 25 #[.slice A n c, .agg #[.int .i64 fr, .int .i64 te, .bool fo]] w fun e w' =>
    e = .returned (.func (.func 43) #[] #[.pointer (some ⟨w.heap.size + 1, 0, none⟩), .pointer (some ⟨w.heap.size, 0, none⟩)]) ∧
      (w.alloc (.cells #[.slice A n c] 23)).alloc (.cells #[.int .i64 fr, .int .i64 te, .bool fo] 25) = w' := by
  go_enter Try.func25, Try.ntmps25
  go_wp2
  go_ret
  exact ⟨rfl, rfl⟩
/-- The places that may be cut, from one down. -/
def backL (l : List Bool) (fr te : Int) : Nat → Int → List Int
  | 0, _ => []
  | n + 1, p => if fr ≤ p then (if p = te ∨ rdOf false l p = true then p :: backL l fr te n (p - 1) else backL l fr te n (p - 1)) else []
theorem Kc_bool {W W' : World} {x : Bool} {cs : List Value} (h : Kd.bool.K W x cs) : Kd.bool.K W' x cs := h
theorem blk_keepI {n₀ : Nat} {Bs : List Nat} {w w' : World} {b : Nat} {o : Obj} (h : w.heap[b]? = some o) (hk : KeepI n₀ Bs w w') (hb : b < n₀ ∨ b ∈ Bs) : w'.heap[b]? = some o := (hk.block b (Array.getElem?_eq_some_iff.1 h).1 hb).trans h
theorem blk_below {w w' : World} {b : Nat} {o : Obj} (h : w.heap[b]? = some o) (hk : Below w.heap.size w w') : w'.heap[b]? = some o := (hk.block b (Array.getElem?_eq_some_iff.1 h).1).trans h
set_option maxRecDepth 100000 in
set_option maxHeartbeats 1000000 in
theorem back_iter (Bx Bw n₀ : Nat) (Bs : List Nat) (A1 : Option Addr) (c1 : Nat) (l1 : List Bool) (fr te : Int) (fo : Bool) (w : World)
    (hx : w.heap[Bx]? = some (.cells #[.int .i64 fr, .int .i64 te, .bool fo] 25 (0, 0))) (hw : Boxed w Bw 23 (.slice A1 l1.length c1))
    (h1 : Kd.C Kd.bool w A1 l1.length l1) (hn0 : ∀ ad, A1 = some ad → 0 < l1.length → ad.block < n₀) (hxB : Bx ∈ Bs) (hwB : Bw ∈ Bs) (hfr : 0 ≤ fr ∧ fr ≤ te ∧ te ≤ (l1.length : Int)) :
    IterS Try.prog 43 #[.pointer (some ⟨Bx, 0, none⟩), .pointer (some ⟨Bw, 0, none⟩)] (fun x : Int => #[.int .i64 x]) n₀ Bs (backL l1 fr te (l1.length + 2) te) w := by
  intro l J Jx W hW hJ hJx hY hJ0
  have q1 := Kd.C_below h1 hW
  have hmx : l1.length ≤ 9223372036854775807 := h1.2.1
  have rx := Aside0.mk (blk_below hx hW)
  have rw_ := Aside0.mk (boxed_below hw hW)
  generalize hxs : backL l1 fr te (l1.length + 2) te = xs at hY ⊢
  have HXS := Aside0.mk hxs
  clear hxs hx hw h1 hW
  show CallsIn Fence.wide 8 Try.prog 43 #[.func (.yield l) #[] #[], .pointer (some ⟨Bx, 0, none⟩), .pointer (some ⟨Bw, 0, none⟩)] W _
  refine callsIn_of_wp Try.func43 rfl trivial ?_ rfl
  simp only [Try.ntmps43, List.size_toArray, List.length_cons, List.length_nil, Nat.reduceAdd, Nat.reduceSub, Array.replicate_succ, Array.replicate_zero, List.push_toArray, List.append_toArray, List.nil_append, List.cons_append]
  have x0 := blk_cell rx.out 0
  have x1 := blk_cell rx.out 1
  gi_wp2
  clear x0 x1
  gi_loopg [4] (l1.length + 2) (fun kq v4 wr => ∃ (p : Int) (pre rest : List Int), v4 = .int .i64 p ∧ Aside0 (xs = pre ++ rest) ∧ Aside0 (backL l1 fr te kq p = rest) ∧ Aside0 (fr - 1 ≤ p ∧ p ≤ te ∧ p - fr + 1 < (kq : Int)) ∧ Aside0 (J pre wr) ∧ Aside0 (KeepI n₀ Bs W wr))
  case atStart => exact ⟨te, [], xs, rfl, ⟨rfl⟩, HXS, ⟨by omega⟩, ⟨hJ0⟩, ⟨KeepI.refl _ _ _⟩⟩
  case round =>
    clear HXS hJ0
    obtain ⟨p, pre, rest, rfl, hx, hr, hin, hJs, hK⟩ := hrel
    cases gk with
    | zero => have := hin.out; exfalso; omega
    | succ m =>
    have kx := blk_keepI rx.out hK.out (.inr hxB)
    have x0 := blk_cell kx 0
    have x1 := blk_cell kx 1
    have cw := (boxed_keepI rw_.out hK.out (.inr hwB)).cell
    have hr2 := hr.out
    simp only [backL] at hr2
    by_cases hi : fr ≤ p
    · have d1 : decide (fr ≤ p) = true := decide_eq_true hi
      rw [if_pos hi] at hr2
      have e1 : IntKind.i64.wrap (p - 1) = p - 1 := IntWalk.i64_in _ (by have := hin.out; omega)
      have HI := Aside0.mk hi
      clear hr
      by_cases ht : p = te
      · rw [if_pos (.inl ht)] at hr2
        have d2 : (p == te) = true := beq_iff_eq.2 ht
        obtain ⟨ys, hys⟩ : ∃ ys, backL l1 fr te m (p - 1) = ys := ⟨_, rfl⟩
        rw [hys] at hr2
        have HYS := Aside0.mk hys
        subst hr2
        clear hys ht hi
        gi_wp2
        obtain ⟨fn, tmps, assign, body, hy, hR⟩ := hY pre p ys wr hx.out hJs.out
        try dsimp only at hy
        rw [hy]
        clear hy x0 x1 cw
        gi_wp2
        refine hR.mono ?_
        rintro e_ W3 (⟨rfl, hJ3, hk3⟩ | ⟨rfl, hJx3⟩)
        · have hK3 := hK.out.trans hk3
          gi_wp2
          go_roundg m
          case measure => omega
          case rel => exact ⟨p - 1, pre ++ [p], ys, rfl, ⟨by rw [hx.out]; simp⟩, HYS, ⟨by have := hin.out; have := HI.out; omega⟩, ⟨hJ3⟩, ⟨hK3⟩⟩
        · gi_wp2
          refine bodyPost_ret (results_none rfl _ _ _) rfl ?_
          exact ⟨⟨_, rfl⟩, .inr hJx3⟩
      · have d2 : (p == te) = false := beq_eq_false_iff_ne.2 ht
        have z1 : 0 ≤ p := by have := hfr; omega
        have z2 : p < (l1.length : Int) := by have := hin.out; have := hfr; omega
        obtain ⟨ad, rfl, hb0⟩ := Kd.at_bool (C_keepI Kc_bool q1 hn0 hK.out) p z1 z2
        cases hb : rdOf false l1 p with
        | true =>
          rw [if_pos (.inr hb)] at hr2
          rw [hb] at hb0
          obtain ⟨ys, hys⟩ : ∃ ys, backL l1 fr te m (p - 1) = ys := ⟨_, rfl⟩
          rw [hys] at hr2
          have HYS := Aside0.mk hys
          subst hr2
          clear hys hi hb
          gi_wp2
          obtain ⟨fn, tmps, assign, body, hy, hR⟩ := hY pre p ys wr hx.out hJs.out
          try dsimp only at hy
          rw [hy]
          clear hy x0 x1 cw hb0
          gi_wp2
          refine hR.mono ?_
          rintro e_ W3 (⟨rfl, hJ3, hk3⟩ | ⟨rfl, hJx3⟩)
          · have hK3 := hK.out.trans hk3
            gi_wp2
            go_roundg m
            case measure => omega
            case rel => exact ⟨p - 1, pre ++ [p], ys, rfl, ⟨by rw [hx.out]; simp⟩, HYS, ⟨by have := hin.out; have := HI.out; omega⟩, ⟨hJ3⟩, ⟨hK3⟩⟩
          · gi_wp2
            refine bodyPost_ret (results_none rfl _ _ _) rfl ?_
            exact ⟨⟨_, rfl⟩, .inr hJx3⟩
        | false =>
          rw [if_neg (fun h => by rcases h with h | h; exact ht h; rw [hb] at h; cases h)] at hr2
          rw [hb] at hb0
          have HR2 := Aside0.mk hr2
          clear hr2 hi hb
          gi_wp2
          refine ⟨fun f hf => (by cases hf), ?_⟩
          gi_wp2
          go_roundg m
          case measure => omega
          case rel => exact ⟨p - 1, pre, rest, rfl, hx, HR2, ⟨by have := hin.out; have := HI.out; omega⟩, hJs, hK⟩
    · have d1 : decide (fr ≤ p) = false := decide_eq_false hi
      rw [if_neg hi] at hr2
      subst hr2
      clear hi hr
      gi_wp2
      go_end0
      exact ⟨⟨_, rfl⟩, .inl (by rw [hx.out, List.append_nil]; exact hJs.out)⟩
attribute [local go_sem] Oper.semAt_some
theorem Bide.listI (w : World) (B : Nat) (hB : w.heap.size ≤ B) (pre : List Int) : Bide B (fun W => (∃ v, Boxed W w.heap.size 37 v ∧ Kd.R (Kd.int .i64) 3 W w.heap.size (fun k => w.heap.size < k) v pre) ∧ Below w.heap.size w W) :=
  Bide.and (Bide.ex fun v => Bide.and (Bide.boxed _ _ _) (Bide.row _ _ _ _ _ _)) (Bide.below (Nat.le_refl _) hB)
set_option maxRecDepth 100000 in
set_option maxHeartbeats 4000000 in
theorem append_seqI (gf : Nat) (lb : Array Value) (n₀ : Nat) (Bs : List Nat) (xs : List Int) (w : World) (eg : ∀ args w, (callFunc gf args).run Try.prog w = .ok (.enter gf args) w)
    (hit : ∀ W, Below w.heap.size w W → IterS Try.prog gf lb (fun x : Int => #[.int .i64 x]) n₀ Bs xs W) (hn : n₀ ≤ w.heap.size) (hBs : ∀ B ∈ Bs, B < w.heap.size) (hlen : xs.length ≤ 1000000000001) :
    Calls Try.prog 48 #[.slice none 0 0, .func (.func gf) #[] lb] w fun e w' => ∃ v, e = .returned v ∧ Kd.R (Kd.int .i64) 3 w' w.heap.size (fun _ => True) v xs ∧ Below w.heap.size w w' := by
  have hB : Below w.heap.size w (w.alloc (.cells #[.slice none 0 0] 37)) := (Below.refl _ w).alloc (Nat.le_refl _) _
  have HI := Aside0.mk (hit _ hB)
  have bx := Boxed.new w 37 (.slice none 0 0)
  clear hit
  refine callsIn_wide.1 (callsIn_of_wp_marks (n := 9) Try.func48 rfl trivial (wpIn_wide.2 ?_) rfl)
  simp only [Try.ntmps48, List.size_toArray, List.length_cons, List.length_nil, Nat.reduceAdd, Nat.reduceSub, Array.replicate_succ, Array.replicate_zero, List.push_toArray, List.append_toArray, List.nil_append, List.cons_append]
  go_wp2_with fail
  refine wp_range (gf := gf) (lb := lb) (n₀ := n₀) (Bs := Bs) rfl eg HI.out (by simp; omega) (fun B hB => by have := hBs B hB; simp; omega) (fun _ => rfl)
    (fun pre W => (∃ v, Boxed W w.heap.size 37 v ∧ Kd.R (Kd.int .i64) 3 W w.heap.size (fun k => w.heap.size < k) v pre) ∧ Below w.heap.size w W) (fun _ _ => False)
    (fun pre => Bide.listI w _ (by simp) pre) (fun _ => Bide.never) ⟨⟨_, bx, Kd.R_nil _ _ _ _ _⟩, hB⟩ ?a1 ?assign ?body ?done (fun _ _ _ _ h _ => h.elim)
  case assign =>
    intro l x W K hK
    gi_wp2
    exact hK
  case body =>
    rintro l pre x rest W hx hzW ⟨⟨v, hbo, hrow⟩, hbel⟩
    simp only [World.size_alloc] at hzW
    have HX := Aside0.mk hx
    have hlp : pre.length + 1 ≤ xs.length := by rw [HX.out]; simp
    have zl : (pre.length + 1) * 8 ≤ 140737488355328 := by omega
    have zs : w.heap.size ≤ W.heap.size := by omega
    obtain ⟨ys, hys⟩ : ∃ ys, pre ++ [x] = ys := ⟨_, rfl⟩
    have Hys := Aside0.mk hys
    have Hrow := Aside0.mk hrow
    have Hbel := Aside0.mk hbel
    have q0 := hbo.cell
    clear hys hx hrow hbel
    refine wpIn_block ?_
    refine round_region (fun _ _ h => h) (by rfl) ?_
    go_wp2_with (first | (at_builtin; refine Aside0.out ?_))
    refine Aside0.mk ?_
    refine Kd.R_append (Kd.int .i64) (w0 := w) w.heap.size rfl (.tmp 8) (.tmp 10) 37 3 (.int .i64 0) 8 rfl Try.underlying37 info3 rfl (by decide) (by omega) v pre x [.int .i64 x] (fun k => w.heap.size < k) (fun _ => False) rfl rfl rfl (fun _ hk => hk.elim) (fun k hk => by omega) Hrow.out Hbel.out zs zl ?_
    intro v1 w1 hown1 hb1 hg1 _
    rw [Hys.out] at hown1
    obtain ⟨A1_, c1_, rfl⟩ := Kd.R_slice hown1
    have bo1 : Boxed w1 w.heap.size 37 v := blk_appended hbo Hrow.out hg1 (.inl (by decide))
    have co1 := bo1.cell
    have fo1 := bo1.frozen
    go_wp2_with fail
    have hBs2 : ∀ B ∈ Bs, ¬ (fun k => w.heap.size < k) B ∨ ∃ cs t, W.heap[B]? = some (.cells cs t (0, 0)) ∧ 3 ≠ t := fun B hB => .inl (fun h => by have := hBs B hB; have h2 : w.heap.size < B := h; omega)
    have hT := (Tame.refl n₀ Bs W).appended Hrow.out hg1 hn hBs2
    rw [Hys.out]
    refine ⟨hT.setCell (p := ⟨w.heap.size, 0, none⟩) bo1 hn (fun h => by have h2 : w.heap.size < w.heap.size := hBs _ h; omega) _, ⟨_, bo1.set _, ?_⟩, hb1.setCell (p := ⟨w.heap.size, 0, none⟩) (Nat.le_refl _) _⟩
    exact Kd.R_set hown1 bo1 (by decide) 0 (.slice A1_ ys.length c1_)
  case done =>
    rintro D W hD ⟨⟨v, hbo, hrow⟩, hbel⟩ hK
    have q0 := hbo.cell
    simp only [World.size_alloc] at hD
    go_wp2_with fail
    refine leave_mark hK (leave1 rfl ⟨_, rfl, ?_, below_putObj _ hbel (by omega)⟩)
    exact row_putObj _ (Kd.R_mono hrow (fun _ _ => trivial)) hK rfl
set_option maxRecDepth 100000 in
set_option maxHeartbeats 1000000 in
theorem collectI (gf : Nat) (lb : Array Value) (n₀ : Nat) (Bs : List Nat) (xs : List Int) (w : World) (eg : ∀ args w, (callFunc gf args).run Try.prog w = .ok (.enter gf args) w)
    (hit : ∀ W, Below w.heap.size w W → IterS Try.prog gf lb (fun x : Int => #[.int .i64 x]) n₀ Bs xs W) (hn : n₀ ≤ w.heap.size) (hBs : ∀ B ∈ Bs, B < w.heap.size) (hlen : xs.length ≤ 1000000000001) :
    Calls Try.prog 30 #[.func (.func gf) #[] lb] w fun e w' => ∃ v, e = .returned v ∧ Kd.R (Kd.int .i64) 3 w' w.heap.size (fun _ => True) v xs ∧ Below w.heap.size w w' := by
  have HA := Aside0.mk (append_seqI gf lb n₀ Bs xs w eg hit hn hBs hlen)
  clear hit
  go_enter Try.func30, Try.ntmps30
  go_wp2_with (first | (go_at_call 48; refine HA.out.mono ?_; rintro e_ W5 ⟨v5, rfl, hr5, hb5⟩))
  go_ret
  exact ⟨_, rfl, hr5, hb5⟩
theorem backL_len (l : List Bool) (fr te : Int) : ∀ (n : Nat) (p : Int), (backL l fr te n p).length ≤ n
  | 0, _ => Nat.le_refl _
  | n + 1, p => by
    unfold backL
    have := backL_len l fr te n (p - 1)
    split
    · split
      · simp only [List.length_cons]; omega
      · omega
    · simp
/-- The iterator that back has made, in what lies behind the making. -/
theorem made_back (A1 : Option Addr) (c1 : Nat) (l1 : List Bool) (fr te : Int) (fo : Bool) (w w2 : World) (h1 : Kd.C Kd.bool w A1 l1.length l1) (hfr : 0 ≤ fr ∧ fr ≤ te ∧ te ≤ (l1.length : Int))
    (hw2 : (w.alloc (.cells #[.slice A1 l1.length c1] 23)).alloc (.cells #[.int .i64 fr, .int .i64 te, .bool fo] 25) = w2) :
    ∀ W, Below w2.heap.size w2 W → IterS Try.prog 43 #[.pointer (some ⟨w.heap.size + 1, 0, none⟩), .pointer (some ⟨w.heap.size, 0, none⟩)] (fun x : Int => #[.int .i64 x]) w.heap.size [w.heap.size, w.heap.size + 1] (backL l1 fr te (l1.length + 2) te) W := by
  intro W hW
  have b1 := (boxed_new w w.heap.size 23 (.slice A1 l1.length c1) rfl).alloc (.cells #[.int .i64 fr, .int .i64 te, .bool fo] 25)
  have b2 : w2.heap[w.heap.size + 1]? = some (.cells #[.int .i64 fr, .int .i64 te, .bool fo] 25 (0, 0)) := by
    rw [← hw2]
    have := World.alloc_heap_new (w.alloc (.cells #[.slice A1 l1.length c1] 23)) (.cells #[.int .i64 fr, .int .i64 te, .bool fo] 25)
    rwa [World.size_alloc] at this
  have hb : Below w.heap.size w w2 := by rw [← hw2]; exact below_alloc (below_alloc (Below.refl _ _) _) _
  rw [hw2] at b1
  exact back_iter (w.heap.size + 1) w.heap.size w.heap.size [w.heap.size, w.heap.size + 1] A1 c1 l1 fr te fo W (blk_below b2 hW) (boxed_below b1 hW) (Kd.C_below (Kd.C_below h1 hb) hW) (block_of_C h1 false (by decide)) (by simp) (by simp) hfr
abbrev insideB (l0 : List S53) (l1 : List Bool) (fr te : Int) : Prop := (l1.length : Int) = (l0.length : Int) ∧ 0 ≤ fr ∧ fr ≤ te ∧ te ≤ (l0.length : Int)
theorem within_eq (l0 : List S53) (l1 : List Bool) (fr te : Int) (fo : Bool) : ellipsis_within.f l0 l1 fr te fo = some (decide (insideB l0 l1 fr te)) := by
  unfold ellipsis_within.f
  by_cases h1 : (l1.length : Int) = (l0.length : Int)
  · rw [if_pos h1]
    by_cases h2 : fr ≥ 0
    · rw [if_pos h2]
      by_cases h3 : fr ≤ te
      · rw [if_pos h3]
        congr 1
        apply decide_eq_decide.2
        exact ⟨fun h => ⟨h1, h2, h3, h⟩, fun h => h.2.2.2⟩
      · rw [if_neg h3, decide_eq_false (fun h => h3 h.2.2.1)]
    · rw [if_neg h2, decide_eq_false (fun h => h2 h.2.1)]
  · rw [if_neg h1, decide_eq_false (fun h => h1 h.1)]
def ellipsis_Places.f (k : Nat) (l0 : List S53) (l1 : List Bool) (a2_0 a2_1 : Int) (_a2_2 : Bool) : Option (List Int × Int) :=
  if insideB l0 l1 a2_0 a2_1 then (if l1.length ≤ 999999999999 then ((slices_Reverse_int_int.f k (backL l1 a2_0 a2_1 (l1.length + 2) a2_1)).bind fun r => some (r, 0)) else none) else some ([], 2)
theorem ellipsis_Places.mono : ∀ a0 a1 a2 a3 a4 k, LeO (ellipsis_Places.f k a0 a1 a2 a3 a4) (ellipsis_Places.f (k + 1) a0 a1 a2 a3 a4) := by
  intro a0 a1 a2 a3 a4 k
  unfold ellipsis_Places.f
  exact LeO.ite (LeO.ite (LeO.bind (slices_Reverse_int_int.mono _ _) fun r => LeO.refl _) (LeO.refl _)) (LeO.refl _)
set_option maxRecDepth 100000 in
set_option maxHeartbeats 1000000 in
theorem ellipsis_Places.calls (k : Nat) (A0 : Option Addr) (c0 : Nat) (l0 : List (S53)) (A1 : Option Addr) (c1 : Nat) (l1 : List Bool) (a2_0 a2_1 : Int) (a2_2 : Bool) (r1 : List Int) (r2 : Int) (w : World) (hr0 : Kd.C k53 w A0 l0.length l0) (hc0 : l0.length ≤ c0) (hr1 : Kd.C Kd.bool w A1 l1.length l1) (hc1 : l1.length ≤ c1) (h : ellipsis_Places.f k l0 l1 a2_0 a2_1 a2_2 = some (r1, r2)) :
    Calls Try.prog 12 #[.slice A0 l0.length c0, .slice A1 l1.length c1, .agg #[.int .i64 a2_0, .int .i64 a2_1, .bool a2_2]] w fun e w' => ∃ v0_ : Value, e = .returned (.tuple #[v0_, .int .i64 r2]) ∧ Kd.R (Kd.int .i64) 3 w' w.heap.size (fun _ => True) v0_ r1 ∧ Below w.heap.size w w' := by
  have hu := Try.underlying25
  unfold ellipsis_Places.f at h
  have HWI := Aside0.mk (within_eq l0 l1 a2_0 a2_1 a2_2)
  by_cases hin : insideB l0 l1 a2_0 a2_1
  · rw [if_pos hin] at h
    rw [decide_eq_true hin] at HWI
    by_cases hlen : l1.length ≤ 999999999999
    · rw [if_pos hlen] at h
      obtain ⟨rv, hrv, h⟩ := Option.bind_eq_some_iff.mp h
      obtain ⟨rfl, rfl⟩ := Prod.mk.inj (Option.some.inj h)
      have HIN := Aside0.mk hin
      have HRV := Aside0.mk hrv
      have HLE := Aside0.mk hlen
      clear hin h hrv hlen
      go_enter Try.func12, Try.ntmps12
      go_wp2_with (first | (go_at_call 23; refine Aside0.out ?_))
      refine Aside0.mk ?_
      have hB1 := below_alloc (Below.refl w.heap.size w) (.cells #[.int .i64 a2_0, .int .i64 a2_1, .bool a2_2] 25)
      have hbk := World.alloc_heap_new w (.cells #[.int .i64 a2_0, .int .i64 a2_1, .bool a2_2] 25)
      refine (ellipsis_within.calls A0 c0 l0 A1 c1 l1 a2_0 a2_1 a2_2 true _ (Kd.C_below hr0 hB1) hc0 (Kd.C_below hr1 hB1) hc1 HWI.out).mono ?_
      rintro e_ w5 ⟨rfl, hb5⟩
      have hk5 := blk_below hbk hb5
      have x0 := blk_cell hk5 0
      have x1 := blk_cell hk5 1
      have x2 := blk_cell hk5 2
      have HB5 := Aside0.mk (below_step hB1 hb5)
      clear hb5 hB1 hbk hk5 HWI
      go_wp2_with (first | (go_at_call 25; refine Aside0.out ?_))
      refine Aside0.mk ?_
      refine (back_any A1 l1.length c1 a2_0 a2_1 a2_2 w5).mono ?_
      rintro e_ W6 ⟨rfl, hW6⟩
      have HI := Aside0.mk (made_back A1 c1 l1 a2_0 a2_1 a2_2 w5 W6 (Kd.C_below hr1 HB5.out) ⟨HIN.out.2.1, HIN.out.2.2.1, by have := HIN.out; omega⟩ hW6)
      have hb6 : Below w5.heap.size w5 W6 := by rw [← hW6]; exact below_alloc (below_alloc (Below.refl _ _) _) _
      have HZ := Aside0.mk (show W6.heap.size = w5.heap.size + 2 by rw [← hW6]; simp)
      have HB6 := Aside0.mk (below_step HB5.out hb6)
      clear hW6 hb6 x0 x1 x2
      go_wp2_with (first | (go_at_call 30; refine Aside0.out ?_))
      refine Aside0.mk ?_
      refine (collectI 43 _ w5.heap.size [w5.heap.size, w5.heap.size + 1] (backL l1 a2_0 a2_1 (l1.length + 2) a2_1) W6 (enters_of Try.func43 (by kernel_rfl) rfl) HI.out (by rw [HZ.out]; omega) (fun B hB => by simp at hB; rw [HZ.out]; omega) (by have := backL_len l1 a2_0 a2_1 (l1.length + 2) a2_1; have := HLE.out; omega)).mono ?_
      rintro e_ W7 ⟨v7, rfl, hr7, hb7⟩
      have HR7 := Aside0.mk (Kd.R_lower hr7 (HB6.out.size))
      have HB7 := Aside0.mk (below_step HB6.out hb7)
      clear hr7 hb7 HI HZ
      go_wp2_with (first | (go_at_call 31; refine Aside0.out ?_))
      refine Aside0.mk ?_
      refine (slices_Reverse_int_int.calls k _ v7 _ rv w W7 HB7.out HR7.out HRV.out).mono ?_
      rintro e_ W8 ⟨rfl, hr8, hb8, _⟩
      go_wp2_with fail
      refine bodyPost_ret (results_tmp2 rfl _ _ _) rfl ?_
      exact ⟨v7, rfl, Kd.R_mono hr8 (fun _ _ => trivial), hb8⟩
    · rw [if_neg hlen] at h
      cases h
  · rw [if_neg hin] at h
    rw [decide_eq_false hin] at HWI
    obtain ⟨rfl, rfl⟩ := Prod.mk.inj (Option.some.inj h)
    clear hin h
    go_enter Try.func12, Try.ntmps12
    go_wp2_with (first | (go_at_call 23; refine Aside0.out ?_))
    refine Aside0.mk ?_
    have hB1 := below_alloc (Below.refl w.heap.size w) (.cells #[.int .i64 a2_0, .int .i64 a2_1, .bool a2_2] 25)
    refine (ellipsis_within.calls A0 c0 l0 A1 c1 l1 a2_0 a2_1 a2_2 false _ (Kd.C_below hr0 hB1) hc0 (Kd.C_below hr1 hB1) hc1 HWI.out).mono ?_
    rintro e_ w5 ⟨rfl, hb5⟩
    have HB5 := Aside0.mk (below_step hB1 hb5)
    clear hb5 hB1
    go_wp2_with fail
    go_ret2
    exact ⟨_, rfl, Kd.R_nil _ _ _ _ _, HB5.out⟩
end

end Go.Proofs.Ytkaiibipcnlaiaa.HEllW
