-- Written by this claim's own program over the kit's print.
import Derived.Test.YtkaiibipcnlaiaaHEllWx0
import Derived.Test.YtkaiibipcnlaiaaHEllWx9
import Derived.Test.YtkaiibipcnlaiaaMB
import Derived.StillTailTactics
import Derived.Laws.Externs
import Derived.BigFrameIn
import Derived.Lib.Hide
import Derived.Sort.LoopGhostIn
import Derived.BigQuiet
import Derived.Test.YtkaiibipcnlaiaaHEllWb
namespace Go.Proofs.Ytkaiibipcnlaiaa.HEllW
open Go.RowKit Go.Proofs.YtkaiibipcnlaiaaW.PrintWords Go.Proofs.YtkaiibipcnlaiaaW.PrintLast Go.Proofs.YtkaiibipcnlaiaaW.PrintMore
attribute [local go_sem] max2_int min2_int max_two min_two max_three min_three max_four min_four   -- for this text's walks alone
set_option linter.unusedVariables false
set_option linter.unusedSimpArgs false

-- BY HAND: function 19
section
open Go.Proofs.Ytkaiibipcnlaiaa.Hand
def edgeB (c : S53) : Bool := c.f0 == 7 || (c.f0 == 8 || c.f0 == 5)
def blankB (c : S53) : Bool := edgeB c || c.f0 == 1
def hangB (c : S53) : Bool := blankB c || c.f0 == 2
theorem edge_eq (c : S53) : trim_edge.f c.f0 c.f1 c.f2 c.f3 c.f4 c.f5 = some (edgeB c) := by
  unfold trim_edge.f edgeB
  by_cases h7 : c.f0 = 7
  · rw [if_pos h7, beq_iff_eq.2 h7]; rfl
  · rw [if_neg h7, beq_eq_false_iff_ne.2 h7]
    by_cases h8 : c.f0 = 8
    · rw [if_pos h8, beq_iff_eq.2 h8]; rfl
    · rw [if_neg h8, beq_eq_false_iff_ne.2 h8]; rfl
set_option maxHeartbeats 1000000 in
theorem blank_any (c : S53) (w : World) : Calls Try.prog 37 #[.agg #[.int .u8 c.f0, .int .i64 c.f1, .int .i64 c.f2, .int .i64 c.f3, .bool c.f4, .bool c.f5]] w fun e w' => e = .returned (.bool (blankB c)) ∧ Below w.heap.size w w' := by
  have he := edge_eq c
  have hb : blankB c = (edgeB c || c.f0 == 1) := rfl
  cases hq : edgeB c with
  | true =>
    rw [hq] at he hb
    have HE := Aside0.mk he
    have HB_ := Aside0.mk hb
    clear he hb hq
    go_enter Try.func37, Try.ntmps37
    go_wp2_with (first | (go_at_call 38; refine (trim_edge.calls c.f0 c.f1 c.f2 c.f3 c.f4 c.f5 true _ HE.out).mono ?_; rintro e w5 ⟨rfl, hb⟩))
    go_ret
    exact ⟨by rw [HB_.out]; rfl, below_step (below_alloc (Below.refl _ _) _) hb⟩
  | false =>
    rw [hq] at he hb
    have HE := Aside0.mk he
    have HB_ := Aside0.mk hb
    clear he hb hq
    go_enter Try.func37, Try.ntmps37
    go_wp2_with (first | (go_at_call 38; refine (trim_edge.calls c.f0 c.f1 c.f2 c.f3 c.f4 c.f5 false _ HE.out).mono ?_; rintro e w5 ⟨rfl, hb⟩; obtain ⟨hc1, hc2⟩ := bcell_ hb))
    go_ret
    exact ⟨by rw [HB_.out]; rfl, below_step (below_alloc (Below.refl _ _) _) hb⟩

/-- A function value that tells whether a cell is so, in whatever world keeps what it has captured. -/
def IsFn (gi n₀ : Nat) (cap : Array Value) (Bs : List Nat) (p : S53 → Bool) (w : World) : Prop :=
  ∀ (c : S53) (W : World), KeepI n₀ Bs w W → Calls Try.prog gi (#[.agg #[.int .u8 c.f0, .int .i64 c.f1, .int .i64 c.f2, .int .i64 c.f3, .bool c.f4, .bool c.f5]] ++ cap) W fun e W' => e = .returned (.bool (p c)) ∧ Below W.heap.size W W'
set_option maxHeartbeats 1000000 in
theorem hang_any (b : Nat) (c : S53) (w : World) (hb0 : Boxed w b 85 (.func (.func 37) #[] #[])) : Calls Try.prog 40 #[.agg #[.int .u8 c.f0, .int .i64 c.f1, .int .i64 c.f2, .int .i64 c.f3, .bool c.f4, .bool c.f5], .pointer (some ⟨b, 0, none⟩)] w fun e w' => e = .returned (.bool (hangB c)) ∧ Below w.heap.size w w' := by
  have hb : hangB c = (blankB c || c.f0 == 2) := rfl
  have HC := Aside0.mk (blank_any c)
  have bb := fun o => (hb0.alloc o).cell
  cases hq : blankB c with
  | true =>
    rw [hq] at hb HC
    have HB_ := Aside0.mk hb
    clear hb hq
    go_enter Try.func40, Try.ntmps40
    go_wp2_with (first | (go_at_call 37; refine (HC.out _).mono ?_; rintro e w5 ⟨rfl, hb⟩))
    go_ret
    exact ⟨by rw [HB_.out]; rfl, below_step (below_alloc (Below.refl _ _) _) hb⟩
  | false =>
    rw [hq] at hb HC
    have HB_ := Aside0.mk hb
    clear hb hq
    go_enter Try.func40, Try.ntmps40
    go_wp2_with (first | (go_at_call 37; refine (HC.out _).mono ?_; rintro e w5 ⟨rfl, hb⟩; obtain ⟨hc1, hc2⟩ := bcell_ hb))
    go_ret
    exact ⟨by rw [HB_.out]; rfl, below_step (below_alloc (Below.refl _ _) _) hb⟩
theorem from_any (A : Option Addr) (n c : Nat) (i b : Int) (fv : Value) (w : World) (hf : fv.oneCell' = true) : Calls Try.prog 39 #[.slice A n c, .int .i64 i, .int .i64 b, fv] w fun e w' =>
    e = .returned (.func (.func 56) #[] #[.pointer (some ⟨w.heap.size + 1, 0, none⟩), .pointer (some ⟨w.heap.size, 0, none⟩), .pointer (some ⟨w.heap.size + 3, 0, none⟩), .pointer (some ⟨w.heap.size + 2, 0, none⟩)]) ∧
      (((w.alloc (.cells #[.slice A n c] 22)).alloc (.cells #[.int .i64 i] 3)).alloc (.cells #[.int .i64 b] 3)).alloc (.cells #[fv] 85) = w' := by
  cases fv <;> first | (simp [Value.oneCell'] at hf; done) | skip
  all_goals
    go_enter Try.func39, Try.ntmps39
    go_wp2
    go_ret
    exact ⟨rfl, rfl⟩
/-- The places from one on, one step after the other, as long as the cells are so. -/
def wayL (l : List S53) (p : S53 → Bool) (b : Int) : Nat → Int → List Int
  | 0, _ => []
  | n + 1, i => if 0 ≤ i ∧ i < (l.length : Int) ∧ p (rd_T53 l i) = true then i :: wayL l p b n (i + b) else []
def enough (l : List S53) (b : Int) (n : Nat) (i : Int) : Prop := (b = 1 ∧ 0 ≤ i ∧ i ≤ (l.length : Int) ∧ (l.length : Int) - i < n) ∨ (b = -1 ∧ -1 ≤ i ∧ i < (l.length : Int) ∧ i + 1 < n)
theorem enough_pos {l : List S53} {b : Int} {n : Nat} {i : Int} (h : enough l b n i) : ∃ m, n = m + 1 := by
  rcases h with h | h <;> exact ⟨n - 1, by omega⟩
theorem enough_step {l : List S53} {b : Int} {n : Nat} {i : Int} (h : enough l b (n + 1) i) (h1 : 0 ≤ i) (h2 : i < (l.length : Int)) : enough l b n (i + b) := by
  rcases h with ⟨rfl, h⟩ | ⟨rfl, h⟩
  · exact .inl ⟨rfl, by omega, by omega, by omega⟩
  · exact .inr ⟨rfl, by omega, by omega, by omega⟩
theorem Kc_any {W W' : World} {x : S53} {cs : List Value} (h : k53.K W x cs) : k53.K W' x cs := by rw [k53_open h]; exact k53_mk W' x

set_option maxRecDepth 100000 in
set_option maxHeartbeats 4000000 in
theorem from_iter (Bi Bl Bf Bb n₀ gi n : Nat) (cap : Array Value) (Bs : List Nat) (p : S53 → Bool) (A0 : Option Addr) (c0 : Nat) (l0 : List S53) (i0 b : Int) (w : World)
    (hi : Boxed w Bi 3 (.int .i64 i0)) (hl : Boxed w Bl 22 (.slice A0 l0.length c0)) (hf : Boxed w Bf 85 (.func (.func gi) #[] cap)) (hb : Boxed w Bb 3 (.int .i64 b))
    (h0 : Kd.C k53 w A0 l0.length l0) (hn0 : ∀ ad, A0 = some ad → 0 < l0.length → ad.block < n₀) (hnB : n₀ ≤ Bi) (hlB : Bl ∈ Bs) (hfB : Bf ∈ Bs) (hbB : Bb ∈ Bs) (hiB : Bi ∉ Bs)
    (heg : ∀ args w, (callFunc gi args).run Try.prog w = .ok (.enter gi args) w) (hp : IsFn gi n₀ cap Bs p w) (hen : enough l0 b n i0) :
    IterM Try.prog 56 #[.pointer (some ⟨Bi, 0, none⟩), .pointer (some ⟨Bl, 0, none⟩), .pointer (some ⟨Bf, 0, none⟩), .pointer (some ⟨Bb, 0, none⟩)] (fun x : Int => #[.int .i64 x]) n₀ (Bi :: Bs) [Bi] (wayL l0 p b n i0) w := by
  intro l J Jx W hW hJ hJx hJM hY hJ0
  have q0 := Kd.C_below h0 hW
  have hmx : l0.length ≤ 9223372036854775807 := h0.2.1
  have ri := boxed_below hi hW
  have rl := Aside0.mk (boxed_below hl hW)
  have rf := Aside0.mk (boxed_below hf hW)
  have rb := Aside0.mk (boxed_below hb hW)
  have HP := Aside0.mk hp
  generalize hxs : wayL l0 p b n i0 = xs at hY ⊢
  have HXS := Aside0.mk hxs
  have HEN := Aside0.mk hen
  clear hxs hp hen
  show CallsIn Fence.wide 8 Try.prog 56 #[.func (.yield l) #[] #[], .pointer (some ⟨Bi, 0, none⟩), .pointer (some ⟨Bl, 0, none⟩), .pointer (some ⟨Bf, 0, none⟩), .pointer (some ⟨Bb, 0, none⟩)] W _
  refine callsIn_of_wp Try.func56 rfl trivial ?_ rfl
  simp only [Try.ntmps56, List.size_toArray, List.length_cons, List.length_nil, Nat.reduceAdd, Nat.reduceSub, Array.replicate_succ, Array.replicate_zero, List.push_toArray, List.append_toArray, List.nil_append, List.cons_append]
  gi_wp2
  gi_loopg [] n (fun kq wr => ∃ (i : Int) (pre rest : List Int), Aside0 (xs = pre ++ rest) ∧ Aside0 (wayL l0 p b kq i = rest) ∧ Aside0 (enough l0 b kq i) ∧ Aside0 (Boxed wr Bi 3 (.int .i64 i)) ∧ Aside0 (J pre wr) ∧ Aside0 (KeepI n₀ Bs W wr))
  case atStart => exact ⟨i0, [], xs, ⟨rfl⟩, HXS, HEN, ⟨ri⟩, ⟨hJ0⟩, ⟨KeepI.refl _ _ _⟩⟩
  case round =>
    clear HXS HEN hJ0 ri
    obtain ⟨i, pre, rest, hx, hr, hen, ri, hJs, hK⟩ := hrel
    obtain ⟨m, rfl⟩ := enough_pos hen.out
    have HT := hJM
    by_cases hin : 0 ≤ i ∧ i < (l0.length : Int)
    · obtain ⟨h1, h2⟩ := hin
      obtain ⟨ad, rfl, hd0, hd1, hd2, hd3, hd4, hd5⟩ := at_T53 (C_keepI Kc_any q0 hn0 hK.out) i h1 h2
      have ci := ri.out.cell
      have cl := (boxed_keepI rl.out hK.out (.inr hlB)).cell
      have cf := (boxed_keepI rf.out hK.out (.inr hfB)).cell
      have d1 : decide (0 ≤ i) = true := decide_eq_true h1
      have d2 : decide (i < (l0.length : Int)) = true := decide_eq_true h2
      have HC := Aside0.mk (fun (W' : World) (hb : Below wr.heap.size wr W') => HP.out (rd_T53 l0 i) W' (((KeepI.of_below hW).trans hK.out).below hb))
      have hst := hr.out
      simp only [wayL] at hst
      generalize rd_T53 l0 i = c at hd0 hd1 hd2 hd3 hd4 hd5 HC hst
      cases hpc : p c with
      | true =>
        rw [hpc] at HC hst
        rw [if_pos ⟨h1, h2, rfl⟩] at hst
        have HST := Aside0.mk hst
        clear hst hpc
        refine wpIn_seq_k fun K hK_ => ?_
        have HK := Lib.hid hK_
        clear hK_
        refine wpIn_seq_k fun K2 hK2_ => ?_
        have HK2 := Lib.hid hK2_
        clear hK2_
        refine wpIn_wide.2 ?_
        go_still_tail 14, (by kernel_rfl)
        go_wp2_with fail
        refine (HC.out wr.drew (below_drew1 (Below.refl _ _))).mono ?_
        rintro e_ w5 ⟨rfl, hb⟩
        go_wp2_with fail
        refine HK2.out _ _ ?_
        clear HK2
        have hB5 : Below wr.heap.size wr w5 := below_step (below_drew1 (Below.refl _ _)) hb
        have hJ5 := hJ _ _ _ hJs.out hB5
        have hK5 := hK.out.below hB5
        have ri5 := boxed_below ri.out hB5
        clear hd0 hd1 hd2 hd3 hd4 hd5 cf HC cl ci hb
        have ci5 := ri5.cell
        have fi5 := ri5.frozen
        obtain ⟨ys, hys⟩ : ∃ ys, wayL l0 p b m (i + b) = ys := ⟨_, rfl⟩
        have hrest : rest = i :: ys := by rw [← hys]; exact HST.out.symm
        have hx2 := hx.out
        rw [hrest] at hx2
        have HX2 := Aside0.mk hx2
        have HYS := Aside0.mk hys
        clear hys hrest hx2
        gi_wp2
        refine HK.out _ _ ?_
        clear HK
        gi_wp2
        obtain ⟨fn, tmps, assign, body, hy, hR⟩ := hY pre i ys w5 HX2.out hJ5
        try dsimp only at hy
        rw [hy]
        clear hy
        gi_wp2
        refine hR.mono ?_
        rintro e_ W3 (⟨rfl, hJ3, hk3⟩ | ⟨rfl, hJx3⟩)
        · have hk4 := hk3.weak (Cs := Bs) (fun x hx => List.mem_cons_of_mem _ hx)
          have ri3 := boxed_keepI ri5 hk3 (.inr (List.mem_cons_self ..))
          have hK3 := hK5.trans hk4
          have cb3 := (boxed_keepI rb.out hK3 (.inr hbB)).cell
          have ci3 := ri3.cell
          have fi3 := ri3.frozen
          have hes := enough_step hen.out h1 h2
          have e1 : IntKind.i64.wrap (i + b) = i + b := IntWalk.i64_in _ (by rcases hes with h | h <;> omega)
          gi_wp2
          go_roundg m
          case measure => omega
          case rel => exact ⟨i + b, pre ++ [i], ys, ⟨by rw [HX2.out]; simp⟩, HYS, ⟨hes⟩, ⟨boxed_set ri3 _⟩, ⟨hJM _ _ _ _ hJ3 (by simp)⟩, ⟨hK3.setCell _ hnB hiB⟩⟩
        · gi_wp2
          refine bodyPost_ret (results_none rfl _ _ _) rfl ?_
          exact ⟨⟨_, rfl⟩, .inr hJx3⟩
      | false =>
        rw [hpc] at HC hst
        rw [if_neg (fun hc => by cases hc.2.2)] at hst
        have HST := Aside0.mk hst
        clear hst hpc
        refine wpIn_seq_k fun K hK_ => ?_
        have HK := Lib.hid hK_
        clear hK_
        refine wpIn_seq_k fun K2 hK2_ => ?_
        have HK2 := Lib.hid hK2_
        clear hK2_
        refine wpIn_wide.2 ?_
        go_still_tail 14, (by kernel_rfl)
        go_wp2_with fail
        refine (HC.out wr.drew (below_drew1 (Below.refl _ _))).mono ?_
        rintro e_ w5 ⟨rfl, hb⟩
        go_wp2_with fail
        refine HK2.out _ _ ?_
        clear HK2
        have hB5 : Below wr.heap.size wr w5 := below_step (below_drew1 (Below.refl _ _)) hb
        have hJ5 := hJ _ _ _ hJs.out hB5
        have hK5 := hK.out.below hB5
        have ri5 := boxed_below ri.out hB5
        clear hd0 hd1 hd2 hd3 hd4 hd5 cf HC cl ci hb
        clear HK
        gi_wp2
        go_end0
        exact ⟨⟨_, rfl⟩, .inl (by rw [hx.out, ← HST.out, List.append_nil]; exact hJ5)⟩
    · have hr0 : rest = [] := by
        have h2 := hr.out
        simp only [wayL] at h2
        rw [if_neg (fun hc => hin ⟨hc.1, hc.2.1⟩)] at h2
        exact h2.symm
      have ci := ri.out.cell
      have cl := (boxed_keepI rl.out hK.out (.inr hlB)).cell
      by_cases h1 : 0 ≤ i
      · have d1 : decide (0 ≤ i) = true := decide_eq_true h1
        have d2 : decide (i < (l0.length : Int)) = false := decide_eq_false (fun h => hin ⟨h1, h⟩)
        clear hin h1
        refine wpIn_seq_k fun K hK_ => ?_
        have HK := Lib.hid hK_
        clear hK_
        refine wpIn_seq_k fun K2 hK2_ => ?_
        have HK2 := Lib.hid hK2_
        clear hK2_
        refine wpIn_wide.2 ?_
        go_quiet (fail)
        simp only [Exit.then]
        refine HK2.out _ _ ?_
        clear HK2
        gi_wp2
        go_end0
        exact ⟨⟨_, rfl⟩, .inl (by rw [hx.out, hr0, List.append_nil]; exact hJ _ _ _ hJs.out (pw_below_drewN (Below.refl _ _) _))⟩
      · have d1 : decide (0 ≤ i) = false := decide_eq_false h1
        clear hin h1
        refine wpIn_seq_k fun K hK_ => ?_
        have HK := Lib.hid hK_
        clear hK_
        refine wpIn_seq_k fun K2 hK2_ => ?_
        have HK2 := Lib.hid hK2_
        clear hK2_
        refine wpIn_wide.2 ?_
        go_quiet (fail)
        simp only [Exit.then]
        refine HK2.out _ _ ?_
        clear HK2
        gi_wp2
        go_end0
        exact ⟨⟨_, rfl⟩, .inl (by rw [hx.out, hr0, List.append_nil]; exact hJ _ _ _ hJs.out (pw_below_drewN (Below.refl _ _) _))⟩

/-- What the roles become when those of a kind on the way are marked. -/
def markL (l : List S53) (kind role : Int) (is : List Int) (out : List Int) : List Int := is.foldl (fun o i => if (rd_T53 l i).f0 = kind then o.set i.toNat role else o) out
theorem markL_len (l : List S53) (kind role : Int) : ∀ (is out : List Int), (markL l kind role is out).length = out.length
  | [], _ => rfl
  | i :: is, out => by
    have h : markL l kind role (i :: is) out = markL l kind role is (if (rd_T53 l i).f0 = kind then out.set i.toNat role else out) := rfl
    rw [h, markL_len l kind role is]
    split <;> simp
theorem markL_snoc (l : List S53) (kind role : Int) (is out : List Int) (i : Int) : markL l kind role (is ++ [i]) out = if (rd_T53 l i).f0 = kind then (markL l kind role is out).set i.toNat role else markL l kind role is out := by simp [markL, List.foldl_append]
theorem wayL_in (l : List S53) (p : S53 → Bool) (b : Int) : ∀ (n : Nat) (i : Int), ∀ x ∈ wayL l p b n i, 0 ≤ x ∧ x < (l.length : Int)
  | 0, _, x, hx => by cases hx
  | n + 1, i, x, hx => by
    unfold wayL at hx
    split at hx
    · rename_i h
      rcases List.mem_cons.1 hx with rfl | h2
      · exact ⟨h.1, h.2.1⟩
      · exact wayL_in l p b n _ x h2
    · cases hx

theorem below_lower_ {a b : Nat} {w W : World} (h : Below b w W) (ha : a ≤ b) : Below a w W := ⟨h.os, h.tape, h.output, h.size, fun k hk => h.block k (Nat.lt_of_lt_of_le hk ha)⟩
/-- What lies while a row is marked. -/
structure GiveAt (n₀ g co Bl Bo Bk Br : Nat) (Cs : List Nat) (A0 : Option Addr) (c0 nl : Nat) (kind role : Int) (w W : World) (o : List Int) : Prop where
  xl : Boxed W Bl 22 (.slice A0 nl c0)
  xo : Boxed W Bo 58 (.slice (some ⟨g, 0, none⟩) nl co)
  xk : Boxed W Bk 5 (.int .u8 kind)
  xr : Boxed W Br 5 (.int .u8 role)
  row : Kd.R (Kd.int .u8) 5 W n₀ (fun k => k = g) (.slice (some ⟨g, 0, none⟩) nl co) o
  keep : KeepI n₀ Cs w W
  bel : Below n₀ w W
section
variable {n₀ g co Bl Bo Bk Br : Nat} {Cs : List Nat} {A0 : Option Addr} {c0 nl : Nat} {kind role : Int} {w W : World} {o : List Int}
theorem GiveAt.below {W' : World} (hn : n₀ ≤ w.heap.size) (h : GiveAt n₀ g co Bl Bo Bk Br Cs A0 c0 nl kind role w W o) (hb : Below W.heap.size W W') : GiveAt n₀ g co Bl Bo Bk Br Cs A0 c0 nl kind role w W' o :=
  ⟨boxed_below h.xl hb, boxed_below h.xo hb, boxed_below h.xk hb, boxed_below h.xr hb, Kd.R_below h.row hb, h.keep.below hb, h.bel.trans (below_lower_ hb (Nat.le_trans hn h.bel.size))⟩
theorem GiveAt.bide {B : Nat} (hw : n₀ ≤ w.heap.size) (hn : n₀ ≤ B) (hC : ∀ c ∈ Cs, c < B) : Bide B (fun W => GiveAt n₀ g co Bl Bo Bk Br Cs A0 c0 nl kind role w W o) := fun X Y row h hg hr =>
  ⟨Bide.boxed _ _ _ X Y row h.xl hg hr, Bide.boxed _ _ _ X Y row h.xo hg hr, Bide.boxed _ _ _ X Y row h.xk hg hr, Bide.boxed _ _ _ X Y row h.xr hg hr, Bide.row _ _ _ _ _ _ X Y row h.row hg hr,
    ⟨Nat.le_trans h.keep.size hg.size, fun k hk hm => (hg.block k (Nat.lt_of_lt_of_le hk h.keep.size) (fun e => by
      have h1 := (hr k e.symm).1
      rcases hm with hm | hm
      · omega
      · have := hC _ hm; omega)).trans (h.keep.block k hk hm)⟩, Bide.below hw hn X Y row h.bel hg hr⟩
theorem GiveAt.setM (h : GiveAt n₀ g co Bl Bo Bk Br Cs A0 c0 nl kind role w W o) {p : Addr} (v : Value) (h1 : p.block ≠ Bl) (h2 : p.block ≠ Bo) (h3 : p.block ≠ Bk) (h4 : p.block ≠ Br) (h5 : p.block ≠ g) (h6 : n₀ ≤ p.block) (h7 : p.block ∉ Cs) :
    GiveAt n₀ g co Bl Bo Bk Br Cs A0 c0 nl kind role w (W.setCell p v) o :=
  ⟨blk_far (p := p) h.xl (Ne.symm h1) v, blk_far (p := p) h.xo (Ne.symm h2) v, blk_far (p := p) h.xk (Ne.symm h3) v, blk_far (p := p) h.xr (Ne.symm h4) v,
    Kd.R_move h.row (fun k hk => Below.heap_setCell W p v k (fun e => h5 (e.symm.trans hk))), h.keep.setCell v h6 h7, h.bel.setCell (p := p) h6 v⟩
theorem GiveAt.put (h : GiveAt n₀ g co Bl Bo Bk Br Cs A0 c0 nl kind role w W o) (i : Int) (x : Int) (h3 : g ≠ Bk) (h4 : g ≠ Br) (h1 : g ≠ Bl) (h2 : g ≠ Bo) (h7 : g ∉ Cs) (h6 : n₀ ≤ g) :
    GiveAt n₀ g co Bl Bo Bk Br Cs A0 c0 nl kind role w (W.setCell ⟨g, i.toNat, none⟩ (.int .u8 x)) (o.set i.toNat x) :=
  ⟨blk_far (p := ⟨g, i.toNat, none⟩) h.xl (Ne.symm h1) _, blk_far (p := ⟨g, i.toNat, none⟩) h.xo (Ne.symm h2) _, blk_far (p := ⟨g, i.toNat, none⟩) h.xk (Ne.symm h3) _, blk_far (p := ⟨g, i.toNat, none⟩) h.xr (Ne.symm h4) _,
    (Kd.R_putg h.row i x).1, h.keep.setCell _ h6 h7, h.bel.setCell (p := ⟨g, i.toNat, none⟩) h6 _⟩
end

attribute [local go_sem] Oper.semAt_some
set_option maxRecDepth 100000 in
set_option maxHeartbeats 4000000 in
theorem give_any (kind role : Int) (gf : Nat) (lb : Array Value) (Bl Bo n₀ g co : Nat) (Bs Ms Cs : List Nat) (A0 : Option Addr) (c0 : Nat) (l0 : List S53) (xs out : List Int) (w : World)
    (eg : ∀ args w, (callFunc gf args).run Try.prog w = .ok (.enter gf args) w)
    (hit : ∀ W, Below w.heap.size w W → IterM Try.prog gf lb (fun x : Int => #[.int .i64 x]) n₀ Bs Ms xs W)
    (hn : n₀ ≤ w.heap.size) (hBs : ∀ B ∈ Bs, B < w.heap.size ∧ B ≠ g) (hMs : ∀ B ∈ Ms, B < w.heap.size ∧ B ≠ g ∧ B ≠ Bl ∧ B ≠ Bo ∧ n₀ ≤ B ∧ B ∉ Cs) (hCs : ∀ B ∈ Cs, B < w.heap.size ∧ B ≠ g)
    (hxs : ∀ x ∈ xs, 0 ≤ x ∧ x < (l0.length : Int))
    (hl : Boxed w Bl 22 (.slice A0 l0.length c0)) (ho : Boxed w Bo 58 (.slice (some ⟨g, 0, none⟩) l0.length co))
    (h0 : Kd.C k53 w A0 l0.length l0) (hn0 : ∀ ad, A0 = some ad → 0 < l0.length → ad.block < n₀)
    (hr : Kd.R (Kd.int .u8) 5 w n₀ (fun k => k = g) (.slice (some ⟨g, 0, none⟩) l0.length co) out) (hg : n₀ ≤ g) (hgl : g ≠ Bl) (hgo : g ≠ Bo) :
    Calls Try.prog 36 #[.int .u8 kind, .int .u8 role, .func (.func gf) #[] lb, .pointer (some ⟨Bl, 0, none⟩), .pointer (some ⟨Bo, 0, none⟩)] w fun e w' => (∃ v, e = .returned v) ∧ KeepI n₀ Cs w w' ∧ Below n₀ w w' ∧ Kd.R (Kd.int .u8) 5 w' n₀ (fun k => k = g) (.slice (some ⟨g, 0, none⟩) l0.length co) (markL l0 kind role xs out) := by
  have hgs : g < w.heap.size := Kd.R_lt hr g rfl
  have zl := hl.lt
  have zo := ho.lt
  have bk := (Boxed.new w 5 (.int .u8 kind)).alloc (.cells #[.int .u8 role] 5)
  have br := Boxed.new (w.alloc (.cells #[.int .u8 kind] 5)) 5 (.int .u8 role)
  rw [World.size_alloc] at br
  have hB : Below w.heap.size w ((w.alloc (.cells #[.int .u8 kind] 5)).alloc (.cells #[.int .u8 role] 5)) := ((Below.refl _ w).alloc (Nat.le_refl _) _).alloc (by simp) _
  have hA : GiveAt n₀ g co Bl Bo w.heap.size (w.heap.size + 1) Cs A0 c0 l0.length kind role w ((w.alloc (.cells #[.int .u8 kind] 5)).alloc (.cells #[.int .u8 role] 5)) out :=
    ⟨(hl.alloc _).alloc _, (ho.alloc _).alloc _, bk, br, Kd.R_below hr hB, KeepI.of_below hB, below_lower_ hB hn⟩
  have HI := hit _ hB
  clear bk br hit
  refine callsIn_wide.1 (callsIn_of_wp_marks (n := 9) Try.func36 rfl trivial (wpIn_wide.2 ?_) rfl)
  simp only [Try.ntmps36, List.size_toArray, List.length_cons, List.length_nil, Nat.reduceAdd, Nat.reduceSub, Array.replicate_succ, Array.replicate_zero, List.push_toArray, List.append_toArray, List.nil_append, List.cons_append]
  go_wp2_with fail
  refine wp_rangeM (gf := gf) (lb := lb) (n₀ := n₀) (Bs := Bs) (Ms := Ms) rfl eg HI (fun B hB => by have := (hMs B hB).1; simp; omega) (by simp; omega) (fun B hB => by have := (hBs B hB).1; simp; omega) (fun _ => rfl)
    (fun pre W => GiveAt n₀ g co Bl Bo w.heap.size (w.heap.size + 1) Cs A0 c0 l0.length kind role w W (markL l0 kind role pre out)) (fun _ _ => False)
    (fun _ => GiveAt.bide hn (by simp; omega) (fun c hc => by have := (hCs c hc).1; simp; omega)) (fun s W p v h hp => ?cM) (fun _ => Bide.never) hA ?a1 ?assign ?body ?done (fun _ _ _ _ h _ => h.elim)
  case cM =>
    obtain ⟨m1, m2, m3, m4, m5, m6⟩ := hMs _ hp
    exact h.setM v m3 m4 (by omega) (by omega) m2 m5 m6
  case assign =>
    intro l x W K hK
    gi_wp2
    exact hK
  case body =>
    intro l pre x rest W hx hzW hA6
    obtain ⟨h1, h2⟩ := hxs x (by rw [hx]; simp)
    clear hx hA HI hl ho
    have q0 := C_keepI Kc_any h0 hn0 hA6.keep
    obtain ⟨ad, rfl, hd0, hd1, hd2, hd3, hd4, hd5⟩ := at_T53 q0 x h1 h2
    obtain ⟨hx0, hf0⟩ := Kd.R_celln 0 hA6.row x h1 h2
    have cl := hA6.xl.cell
    have co_ := hA6.xo.cell
    have ck := hA6.xk.cell
    have cr := hA6.xr.cell
    have HM := Aside0.mk (markL_snoc l0 kind role pre out x)
    have HA6 := Aside0.mk hA6
    clear hA6 q0
    by_cases hk : (rd_T53 l0 x).f0 = kind
    · have HM2 := Aside0.mk (HM.out.trans (if_pos hk))
      have hkb : ((rd_T53 l0 x).f0 == kind) = true := beq_iff_eq.2 hk
      clear HM hk
      gi_wp2
      refine round_quiet (by kernel_rfl) (fun _ _ h => h) (by rfl) (by kernel_rfl) ?_
      repeat (go_big_quiet_step (fail))
      refine wpQuiet_nil ?_
      rintro _ ⟨nq, rfl⟩
      gi_wp2
      have hB7 : Below W.heap.size W (W.drewN nq) := pw_below_drewN (Below.refl _ _) _
      have HA7 := HA6.out.below hn hB7
      simp only [roundQ]
      rw [HM2.out]
      exact ⟨((Tame.refl n₀ Bs W).drewN nq).appended HA7.row (Kd.R_putg HA7.row x role).2 (Nat.le_refl _) (fun B hB => .inl (hBs B hB).2), HA7.put x role (by omega) (by omega) hgl hgo (fun h => (hCs _ h).2 rfl) hg⟩
    · have HM2 := Aside0.mk (HM.out.trans (if_neg hk))
      have hkb : ((rd_T53 l0 x).f0 == kind) = false := beq_eq_false_iff_ne.2 hk
      clear HM hk
      gi_wp2
      refine round_quiet (by kernel_rfl) (fun _ _ h => h) (by rfl) (by kernel_rfl) ?_
      repeat (go_big_quiet_step (fail))
      refine wpQuiet_nil ?_
      rintro _ ⟨nq, rfl⟩
      gi_wp2
      simp only [roundQ]
      rw [HM2.out]
      exact ⟨(Tame.refl n₀ Bs W).drewN nq, HA6.out.below hn (pw_below_drewN (Below.refl _ _) _)⟩
  case done =>
    intro D W hD hA6 hK
    clear hA HI hl ho
    go_wp2_with fail
    have hA7 := (GiveAt.bide hn (by simp; omega) (fun c hc => by have := (hCs c hc).1; simp; omega)).putObj (.deferred none) hA6 hD hK rfl
    exact leave_mark hK ⟨_, results_none rfl _ _ _, ⟨_, rfl⟩, hA7.keep, hA7.bel, hA7.row⟩

theorem R_at_ {α : Type} {d : Kd α} {e base b : Nat} {ok : Nat → Prop} {w : World} {v : Value} {xs : List α} (h : d.R e w base ok v xs) (hb : v.ownBlock = some b) : ∃ cap, v = .slice (some ⟨b, 0, none⟩) xs.length cap := by
  obtain ⟨inner, ho⟩ := Kd.R_own h
  rcases ho.2 with ⟨rfl, _⟩ | ⟨g, cap, cur, rfl, _⟩
  · cases hb
  · cases hb
    exact ⟨cap, rfl⟩
/-- What the call's own boxes hold between two passes. -/
structure RolesAt (w : World) (bo bb g co : Nat) (A0 : Option Addr) (c0 nl : Nat) (W : World) (o : List Int) : Prop where
  xl : Boxed W w.heap.size 22 (.slice A0 nl c0)
  xo : Boxed W bo 58 (.slice (some ⟨g, 0, none⟩) nl co)
  xb : Boxed W bb 85 (.func (.func 37) #[] #[])
  row : Kd.R (Kd.int .u8) 5 W w.heap.size (fun k => k = g) (.slice (some ⟨g, 0, none⟩) nl co) o
  bel : Below w.heap.size w W
theorem roles_pass (w : World) (bo bb g co : Nat) (A0 : Option Addr) (c0 : Nat) (l0 : List S53) (W : World) (o : List Int) (kind role : Int) (gi : Nat) (cap : Array Value) (p : S53 → Bool) (i b : Int) (n : Nat)
    (hA : RolesAt w bo bb g co A0 c0 l0.length W o) (heg : ∀ args w, (callFunc gi args).run Try.prog w = .ok (.enter gi args) w)
    (hp : ∀ X, Boxed X bb 85 (.func (.func 37) #[] #[]) → ∀ c : S53, Calls Try.prog gi (#[.agg #[.int .u8 c.f0, .int .i64 c.f1, .int .i64 c.f2, .int .i64 c.f3, .bool c.f4, .bool c.f5]] ++ cap) X fun e W' => e = .returned (.bool (p c)) ∧ Below X.heap.size X W')
    (hen : enough l0 b n i) (h0 : Kd.C k53 w A0 l0.length l0) :
    Calls Try.prog 36 #[.int .u8 kind, .int .u8 role, .func (.func 56) #[] #[.pointer (some ⟨W.heap.size + 1, 0, none⟩), .pointer (some ⟨W.heap.size, 0, none⟩), .pointer (some ⟨W.heap.size + 3, 0, none⟩), .pointer (some ⟨W.heap.size + 2, 0, none⟩)], .pointer (some ⟨w.heap.size, 0, none⟩), .pointer (some ⟨bo, 0, none⟩)]
      ((((W.alloc (.cells #[.slice A0 l0.length c0] 22)).alloc (.cells #[.int .i64 i] 3)).alloc (.cells #[.int .i64 b] 3)).alloc (.cells #[.func (.func gi) #[] cap] 85))
      fun e w' => (∃ v, e = .returned v) ∧ RolesAt w bo bb g co A0 c0 l0.length w' (markL l0 kind role (wayL l0 p b n i) o) := by
  have zg : g < W.heap.size := Kd.R_lt hA.row g rfl
  have zl := hA.xl.lt
  have zo := hA.xo.lt
  have zb := hA.xb.lt
  have zw : w.heap.size ≤ g := Kd.R_base hA.row g rfl
  have ngl : g ≠ w.heap.size := fun e => Kd.R_ne hA.row hA.xl (by decide) (by rw [← e]; rfl)
  have ngo : g ≠ bo := fun e => Kd.R_ne hA.row hA.xo (by decide) (by rw [← e]; rfl)
  have ngb : g ≠ bb := fun e => Kd.R_ne hA.row hA.xb (by decide) (by rw [← e]; rfl)
  have hb4 : Below W.heap.size W ((((W.alloc (.cells #[.slice A0 l0.length c0] 22)).alloc (.cells #[.int .i64 i] 3)).alloc (.cells #[.int .i64 b] 3)).alloc (.cells #[.func (.func gi) #[] cap] 85)) := below_alloc (below_alloc (below_alloc (below_alloc (Below.refl _ _) _) _) _) _
  have b1 := (((boxed_new W W.heap.size 22 (.slice A0 l0.length c0) rfl).alloc (.cells #[.int .i64 i] 3)).alloc (.cells #[.int .i64 b] 3)).alloc (.cells #[.func (.func gi) #[] cap] 85)
  have b2 := ((boxed_new (W.alloc (.cells #[.slice A0 l0.length c0] 22)) (W.heap.size + 1) 3 (.int .i64 i) (by simp)).alloc (.cells #[.int .i64 b] 3)).alloc (.cells #[.func (.func gi) #[] cap] 85)
  have b3 := (boxed_new ((W.alloc (.cells #[.slice A0 l0.length c0] 22)).alloc (.cells #[.int .i64 i] 3)) (W.heap.size + 2) 3 (.int .i64 b) (by simp)).alloc (.cells #[.func (.func gi) #[] cap] 85)
  have b4 := boxed_new (((W.alloc (.cells #[.slice A0 l0.length c0] 22)).alloc (.cells #[.int .i64 i] 3)).alloc (.cells #[.int .i64 b] 3)) (W.heap.size + 3) 85 (.func (.func gi) #[] cap) (by simp)
  have hz4 : ((((W.alloc (.cells #[.slice A0 l0.length c0] 22)).alloc (.cells #[.int .i64 i] 3)).alloc (.cells #[.int .i64 b] 3)).alloc (.cells #[.func (.func gi) #[] cap] 85)).heap.size = W.heap.size + 4 := by simp
  generalize (((W.alloc (.cells #[.slice A0 l0.length c0] 22)).alloc (.cells #[.int .i64 i] 3)).alloc (.cells #[.int .i64 b] 3)).alloc (.cells #[.func (.func gi) #[] cap] 85) = W4 at hb4 b1 b2 b3 b4 hz4 ⊢
  have hw4 : Below w.heap.size w W4 := hA.bel.trans (below_lower_ hb4 hA.bel.size)
  have xl4 := boxed_below hA.xl hb4
  have xo4 := boxed_below hA.xo hb4
  have xb4 := boxed_below hA.xb hb4
  have hC4 : Kd.C k53 W4 A0 l0.length l0 := Kd.C_below h0 hw4
  have hn0 := block_of_C h0 z53 (by decide)
  refine (give_any kind role 56 _ w.heap.size bo w.heap.size g co [W.heap.size + 1, W.heap.size, W.heap.size + 3, W.heap.size + 2, bb] [W.heap.size + 1] [w.heap.size, bo, bb] A0 c0 l0 (wayL l0 p b n i) o W4
    (enters_of Try.func56 (by kernel_rfl) rfl) (fun X hX => from_iter (W.heap.size + 1) W.heap.size (W.heap.size + 3) (W.heap.size + 2) w.heap.size gi n cap [W.heap.size, W.heap.size + 3, W.heap.size + 2, bb] p A0 c0 l0 i b X
      (boxed_below b2 hX) (boxed_below b1 hX) (boxed_below b4 hX) (boxed_below b3 hX) (Kd.C_below hC4 hX) hn0 (by omega) (by simp) (by simp) (by simp) (by simp; omega) heg
      (fun c Y hY => hp Y (boxed_keepI (boxed_below xb4 hX) hY (.inr (by simp))) c) hen)
    (by omega) (fun B hB => ?_) (fun B hB => ?_) (fun B hB => ?_) (wayL_in l0 p b n i) xl4 xo4 hC4 hn0 (Kd.R_below hA.row hb4) zw ngl ngo).mono ?_
  · simp only [List.mem_cons, List.not_mem_nil, or_false] at hB
    omega
  · simp only [List.mem_cons, List.not_mem_nil, or_false] at hB ⊢
    omega
  · simp only [List.mem_cons, List.not_mem_nil, or_false] at hB
    omega
  · rintro e w' ⟨hv, hk, hbl, hr⟩
    exact ⟨hv, boxed_keepI xl4 hk (.inr (by simp)), boxed_keepI xo4 hk (.inr (by simp)), boxed_keepI xb4 hk (.inr (by simp)), hr, hw4.trans hbl⟩

theorem store_func_ {P : Program} {w : World} {a : Addr} {m : Mode} (fn : Fn) (first captured : Array Value) : (store a (.func fn first captured) m).run P w = stored P w a (.func fn first captured) m := run_store P w a _ m rfl
attribute [local go_sem] store_func_
/-- What becomes of cells. -/
def rolesL (l : List S53) : List Int :=
  markL l 2 2 (wayL l hangB (-1) (l.length + 1) ((l.length : Int) - 1)) (markL l 1 1 (wayL l blankB (-1) (l.length + 1) ((l.length : Int) - 1)) (markL l 1 1 (wayL l blankB 1 (l.length + 1) 0) (List.replicate l.length 0)))
def trim_Roles.f (l0 : List S53) : Option (List Int) := if l0.length ≤ 281474976710656 then some (rolesL l0) else none
set_option maxRecDepth 100000 in
set_option maxHeartbeats 4000000 in
theorem trim_Roles.calls (A0 : Option Addr) (c0 : Nat) (l0 : List S53) (r : List Int) (w : World) (h0 : Kd.C k53 w A0 l0.length l0) (hc0 : l0.length ≤ c0) (h : trim_Roles.f l0 = some r) :
    Calls Try.prog 19 #[.slice A0 l0.length c0] w fun e w' => ∃ v0_ : Value, e = .returned v0_ ∧ Kd.R (Kd.int .u8) 5 w' w.heap.size (fun _ => True) v0_ r ∧ Below w.heap.size w w' := by
  have hlen : l0.length ≤ 281474976710656 := by
    unfold trim_Roles.f at h
    split at h
    · assumption
    · cases h
  have hres : rolesL l0 = r := by
    unfold trim_Roles.f at h
    rw [if_pos hlen] at h
    exact Option.some.inj h
  have HR := Aside0.mk hres
  have e1 : IntKind.i64.wrap ((l0.length : Int) - 1) = (l0.length : Int) - 1 := IntWalk.i64_in _ (by omega)
  clear h hres
  go_enter Try.func19, Try.ntmps19
  go_wp2_with (first | (at_make; refine Aside0.out ?_))
  refine Aside0.mk ?_
  have x1 := Boxed.new w 22 (.slice A0 l0.length c0)
  refine Kd.R_make (Kd.int .u8) (w0 := w) w.heap.size 5 rfl (N := 8) rfl 58 (.tmp 7) (.tmp 7) rfl (l0.length : Int) rfl rfl Try.underlying58 (.int .u8 0) 1 info5 rfl (by decide) (by decide) 0 (ok := fun k => k = w.heap.size + 1) (okp := fun _ => False) rfl (fun _ hk => hk.elim) (by simp) (by omega) (by simp; omega) (below_alloc (Below.refl _ _) _) (by simp) ?_
  intro v1 W2 hR2 hB2 hg2 hown
  obtain ⟨b, hb1, hb2⟩ := hown
  obtain rfl : b = w.heap.size + 1 := hR2.1 b hb1
  simp only [Int.toNat_natCast] at hR2
  obtain ⟨co, rfl⟩ := R_at_ hR2 hb1
  rw [List.length_replicate] at hR2 ⊢
  have x2 := x1.kept hg2 (by simp)
  have hRR := Aside0.mk hR2
  clear hR2 hb1 hb2 x1 hg2
  have z2 := x2.lt
  have zg := Kd.R_lt hRR.out (w.heap.size + 1) rfl
  have xo := (boxed_new W2 W2.heap.size 58 (.slice (some ⟨w.heap.size + 1, 0, none⟩) l0.length co) rfl).alloc (.cells #[.func (.func 37) #[] #[]] 85)
  have xn := boxed_new (W2.alloc (.cells #[.slice (some ⟨w.heap.size + 1, 0, none⟩) l0.length co] 58)) (W2.heap.size + 1) 85 (.func (.func 37) #[] #[]) (by simp)
  have x3 := (x2.alloc (.cells #[.slice (some ⟨w.heap.size + 1, 0, none⟩) l0.length co] 58)).alloc (.cells #[.func (.func 37) #[] #[]] 85)
  have hA : RolesAt w W2.heap.size (W2.heap.size + 1) (w.heap.size + 1) co A0 c0 l0.length ((W2.alloc (.cells #[.slice (some ⟨w.heap.size + 1, 0, none⟩) l0.length co] 58)).alloc (.cells #[.func (.func 37) #[] #[]] 85)) (List.replicate l0.length 0) :=
    ⟨x3, xo, xn, Kd.R_below hRR.out (below_alloc (below_alloc (Below.refl _ _) _) _), below_alloc (below_alloc hB2 _) _⟩
  have y1 := hA.xl.cell
  have y2 := hA.xb.cell
  have HA := Aside0.mk hA
  clear hA x3 xn xo hRR x2
  go_wp2_with (first | (go_at_call 39; refine Aside0.out ?_))
  refine Aside0.mk ?_
  generalize (W2.alloc (.cells #[.slice (some ⟨w.heap.size + 1, 0, none⟩) l0.length co] 58)).alloc (.cells #[.func (.func 37) #[] #[]] 85) = W3 at HA y1 y2 ⊢
  refine (from_any _ _ _ _ _ _ _ rfl).mono ?_
  rintro e_ W4 ⟨rfl, hW4⟩
  have HP := Aside0.mk (roles_pass w _ _ _ _ A0 c0 l0 W3 _ 1 1 37 #[] blankB 0 1 (l0.length + 1) HA.out (enters_of Try.func37 (by kernel_rfl) rfl) (fun X hX c => blank_any c X) (.inl ⟨rfl, by omega, by omega, by omega⟩) h0)
  rw [hW4] at HP
  go_wp2_with (first | (go_at_call 36; refine Aside0.out ?_))
  refine Aside0.mk ?_
  refine HP.out.mono ?_
  rintro e_ W5 ⟨⟨v5, rfl⟩, hA5⟩
  clear HP HA hW4 y1 y2
  have HA5 := Aside0.mk hA5
  have y1 := hA5.xl.cell
  have y2 := hA5.xb.cell
  clear hA5
  go_wp2_with (first | (go_at_call 39; refine Aside0.out ?_))
  refine Aside0.mk ?_
  refine (from_any _ _ _ _ _ _ _ rfl).mono ?_
  rintro e_ W6 ⟨rfl, hW6⟩
  have HP := Aside0.mk (roles_pass w _ _ _ _ A0 c0 l0 W5 _ 1 1 37 #[] blankB ((l0.length : Int) - 1) (-1) (l0.length + 1) HA5.out (enters_of Try.func37 (by kernel_rfl) rfl) (fun X hX c => blank_any c X) (.inr ⟨rfl, by omega, by omega, by omega⟩) h0)
  rw [hW6] at HP
  go_wp2_with (first | (go_at_call 36; refine Aside0.out ?_))
  refine Aside0.mk ?_
  refine HP.out.mono ?_
  rintro e_ W7 ⟨⟨v7, rfl⟩, hA7⟩
  clear HP HA5 hW6 y1 y2
  have HA7 := Aside0.mk hA7
  have y1 := hA7.xl.cell
  have y2 := hA7.xb.cell
  clear hA7
  go_wp2_with (first | (go_at_call 39; refine Aside0.out ?_))
  refine Aside0.mk ?_
  refine (from_any _ _ _ _ _ _ _ rfl).mono ?_
  rintro e_ W8 ⟨rfl, hW8⟩
  have HP := Aside0.mk (roles_pass w _ _ _ _ A0 c0 l0 W7 _ 2 2 40 #[.pointer (some ⟨W2.heap.size + 1, 0, none⟩)] hangB ((l0.length : Int) - 1) (-1) (l0.length + 1) HA7.out (enters_of Try.func40 (by kernel_rfl) rfl) (fun X hX c => hang_any _ c X hX) (.inr ⟨rfl, by omega, by omega, by omega⟩) h0)
  rw [hW8] at HP
  go_wp2_with (first | (go_at_call 36; refine Aside0.out ?_))
  refine Aside0.mk ?_
  refine HP.out.mono ?_
  rintro e_ W9 ⟨⟨v9, rfl⟩, hA9⟩
  have HA9 := Aside0.mk hA9
  have y1 := hA9.xo.cell
  clear HP HA7 hW8 hA9
  go_wp2
  go_ret
  exact ⟨_, rfl, by rw [← HR.out]; exact Kd.R_mono HA9.out.row (fun _ _ => trivial), HA9.out.bel⟩
end

end Go.Proofs.Ytkaiibipcnlaiaa.HEllW
