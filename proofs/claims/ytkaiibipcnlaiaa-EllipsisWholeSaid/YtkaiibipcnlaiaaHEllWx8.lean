-- Written by this claim's own program over the kit's print.
import Derived.Test.YtkaiibipcnlaiaaHEllWx0
import Derived.Test.YtkaiibipcnlaiaaHEllWx6
import Derived.Test.YtkaiibipcnlaiaaHEllWx7
import Derived.Test.YtkaiibipcnlaiaaMB
import Derived.StillTailTactics
import Derived.Laws.Externs
import Derived.BigFrameIn
import Derived.Lib.Hide
import Derived.Sort.LoopGhostIn
import Derived.BigQuiet
import Derived.Test.YtkaiibipcnlaiaaHEllWb
namespace Go.Proofs.Ytkaiibipcnlaiaa.HEllW
open Go.RowKit Go.Proofs.YtkaiibipcnlaiaaW.PrintWords Go.Proofs.YtkaiibipcnlaiaaW.PrintLast Go.Proofs.YtkaiibipcnlaiaaW.PrintMore
attribute [local go_sem] max2_int min2_int max_two min_two max_three min_three max_four min_four   -- for this text's walks alone
set_option linter.unusedVariables false
set_option linter.unusedSimpArgs false

-- BY HAND: function 18
section
open Go.Proofs.Ytkaiibipcnlaiaa.Hand
def stepC (c : S53) (x : Int) : Option (Int × Int) := tabs_Step.f 9 c.f0 c.f1 c.f2 c.f3 c.f4 c.f5 x
def roleAt (rs : List Int) (i : Nat) : Int := if (i : Int) < (rs.length : Int) then rd rs i else 0
def penOf (c : S53) (r x : Int) : Option (Int × Int) := if r = 1 then some (x, 0) else stepC c x
/-- The pens behind cells, up to the first that is an error. -/
def pensL (rs : List Int) : List S53 → Nat → Int → Option (List (Int × Int))
  | [], _, _ => some []
  | c :: l, i, x => (penOf c (roleAt rs i) x).bind fun p => if p.2 = 0 then (pensL rs l (i + 1) p.1).map (p :: ·) else some [p]
theorem role_some (rs : List Int) (i : Nat) : tabs_role.f rs i = some (roleAt rs i) := by
  unfold tabs_role.f roleAt
  split
  · rw [if_pos (by omega)]
  · rfl
theorem drop_T53 (l : List S53) (k : Nat) (h : k < l.length) : l.drop k = rd_T53 l k :: l.drop (k + 1) := by
  unfold rd_T53
  rw [List.drop_eq_getElem_cons h]
  simp [List.getD, h]
/-- What the pens behind a cell and others tell. -/
theorem pensL_cons {rs : List Int} {c : S53} {l : List S53} {i : Nat} {x : Int} {xs : List (Int × Int)} (h : pensL rs (c :: l) i x = some xs) :
    ∃ a e : Int, penOf c (roleAt rs i) x = some (a, e) ∧ ((e = 0 ∧ ∃ ys, xs = (a, e) :: ys ∧ pensL rs l (i + 1) a = some ys) ∨ (e ≠ 0 ∧ xs = [(a, e)])) := by
  simp only [pensL] at h
  obtain ⟨⟨a, e⟩, h1, h2⟩ := Option.bind_eq_some_iff.1 h
  refine ⟨a, e, h1, ?_⟩
  simp only at h2
  by_cases he : e = 0
  · rw [if_pos he] at h2
    obtain ⟨ys, h3, h4⟩ := Option.map_eq_some_iff.1 h2
    exact .inl ⟨he, ys, h4.symm, h3⟩
  · rw [if_neg he] at h2
    exact .inr ⟨he, (Option.some.inj h2).symm⟩
theorem K53_any {W W' : World} {x : S53} {cs : List Value} (h : k53.K W x cs) : k53.K W' x cs := by rw [k53_open h]; exact k53_mk W' x
theorem Kb_any {k : IntKind} {W W' : World} {x : Int} {cs : List Value} (h : (Kd.int k).K W x cs) : (Kd.int k).K W' x cs := h

set_option maxRecDepth 100000 in
set_option maxHeartbeats 2000000 in
theorem pens_iter (Bx Bl Br n₀ : Nat) (A0 : Option Addr) (c0 : Nat) (l0 : List S53) (A1 : Option Addr) (c1 : Nat) (l1 : List Int) (x : Int) (xs : List (Int × Int)) (w : World)
    (hx : Boxed w Bx 2 (.int .i64 x)) (hl : Boxed w Bl 22 (.slice A0 l0.length c0)) (hr : Boxed w Br 58 (.slice A1 l1.length c1))
    (h0 : Kd.C k53 w A0 l0.length l0) (h1 : Kd.C (Kd.int .u8) w A1 l1.length l1) (hc1 : l1.length ≤ c1)
    (hn0 : ∀ ad, A0 = some ad → 0 < l0.length → ad.block < n₀) (hn1 : ∀ ad, A1 = some ad → 0 < l1.length → ad.block < n₀)
    (hp : pensL l1 l0 0 x = some xs) :
    IterS Try.prog 53 #[.pointer (some ⟨Bx, 0, none⟩), .pointer (some ⟨Bl, 0, none⟩), .pointer (some ⟨Br, 0, none⟩)] (fun p : Int × Int => #[.int .i64 p.1, .int .i64 p.2]) n₀ [Bx, Bl, Br] xs w := by
  intro l J Jx W hW hJ hJx hY hJ0
  have bx := (boxed_below hx hW).cell
  have bl := (boxed_below hl hW).cell
  have hr1 := boxed_below hr hW
  have q0 := Kd.C_below h0 hW
  have q1 := Kd.C_below h1 hW
  have hmx : l0.length ≤ 9223372036854775807 := h0.2.1
  show CallsIn Fence.wide 8 Try.prog 53 #[.func (.yield l) #[] #[], .pointer (some ⟨Bx, 0, none⟩), .pointer (some ⟨Bl, 0, none⟩), .pointer (some ⟨Br, 0, none⟩)] W _
  refine callsIn_of_wp Try.func53 rfl trivial ?_ rfl
  simp only [Try.ntmps53, List.size_toArray, List.length_cons, List.length_nil, Nat.reduceAdd, Nat.reduceSub, Array.replicate_succ, Array.replicate_zero, List.push_toArray, List.append_toArray, List.nil_append, List.cons_append]
  gi_wp2
  gi_loopw [5, 6, 12] (fun a e i wr => ∃ (k : Nat) (y : Int) (pre rest : List (Int × Int)), k ≤ l0.length ∧ i = .int .i64 k ∧ a = .int .i64 y ∧ e = .int .i64 0 ∧ pensL l1 (l0.drop k) k y = some rest ∧ xs = pre ++ rest ∧ J pre wr ∧ KeepI n₀ [Bx, Bl, Br] W wr) (fun _ _ i _ => l0.length - (intOf i).toNat)
  case atStart => exact ⟨0, x, [], xs, Nat.zero_le _, rfl, rfl, rfl, hp, rfl, hJ0, KeepI.refl _ _ _⟩
  case round =>
    clear hp hJ0
    obtain ⟨k, y, pre, rest, hk, rfl, rfl, rfl, hp, hxs, hJs, hK⟩ := hrel
    have Hr := Aside0.mk (boxed_keepI hr1 hK (.inr (by simp)))
    have br := Hr.out.cell
    have Hp := Aside0.mk hp
    have HX := Aside0.mk hxs
    clear hp hxs
    by_cases hlt : k < l0.length
    · obtain ⟨ad, rfl, hd0, hd1, hd2, hd3, hd4, hd5⟩ := at_T53 (C_keepI K53_any q0 hn0 hK) (k : Int) (by omega) (by omega)
      simp only [Int.toNat_natCast] at hd0 hd1 hd2 hd3 hd4 hd5
      have br2 := fun o => (Hr.out.alloc o).cell
      clear br
      have Hc := Aside0.mk (C_keepI Kb_any q1 hn1 hK)
      have hp1 := Hp.out
      rw [drop_T53 l0 k hlt] at hp1
      generalize hcc : rd_T53 l0 k = c at hd0 hd1 hd2 hd3 hd4 hd5 hp1
      obtain ⟨a, e, hpo, hor⟩ := pensL_cons hp1
      have HO := Aside0.mk hor
      clear hor hp1 hcc
      by_cases hg : roleAt l1 k = 1
      · have hae : a = y ∧ e = 0 := by unfold penOf at hpo; rw [if_pos hg] at hpo; simp only [Option.some.injEq, Prod.mk.injEq] at hpo; exact ⟨hpo.1.symm, hpo.2.symm⟩
        obtain ⟨rfl, rfl⟩ := hae
        have hg1 : (roleAt l1 k == 1) = true := beq_iff_eq.2 hg
        have hg2 : (roleAt l1 k != 1) = false := bne_eq_false_iff_eq.2 hg
        clear hg hpo
        gi_wp2_with (first | (refine ⟨trivial, ?_⟩; gi_at_call 54; refine (callsIn_wide.2 (tabs_role.calls A1 c1 l1 k _ _ (Kd.C_alloc Hc.out _) hc1 (role_some l1 k))).mono ?_; rintro e w5 ⟨rfl, hdr⟩))
        have hB5 : Below wr.heap.size wr w5 := by obtain ⟨nd, rfl⟩ := hdr; exact pw_below_drewN (below_alloc (Below.refl _ _) _) nd
        have hJ5 := hJ _ _ _ hJs hB5
        have hK5 := hK.below hB5
        clear hJs hK hd0 hd1 hd2 hd3 hd4 hd5 br2 Hc Hr
        clear hdr
        obtain ⟨ys, hys, hpy⟩ : ∃ ys, rest = (a, 0) :: ys ∧ pensL l1 (l0.drop (k + 1)) (k + 1) a = some ys := by
          rcases HO.out with ⟨_, ys, h1, h2⟩ | ⟨h1, _⟩
          · exact ⟨ys, h1, h2⟩
          · exact absurd rfl h1
        have HP := Aside0.mk hpy
        have hx2 := HX.out
        rw [hys] at hx2
        obtain ⟨fn, tmps, assign, body, hy, hR⟩ := hY pre (a, 0) ys w5 hx2 hJ5
        have HX2 := Aside0.mk hx2
        clear hx2 hys hpy HO
        dsimp only at hy
        rw [hy]
        gi_wp2
        refine hR.mono ?_
        rintro e_ W3 (⟨rfl, hJ3, hk3⟩ | ⟨rfl, hJx3⟩)
        · gi_wp2
          go_roundw
          case rel => exact ⟨k + 1, a, pre ++ [(a, 0)], ys, by omega, by go_num, rfl, rfl, HP.out, by rw [HX2.out]; simp, hJ3, hK5.trans hk3⟩
          case measure => simp [intOf]; omega
        · gi_wp2
          refine bodyPost_ret (results_none rfl _ _ _) rfl ?_
          exact ⟨⟨_, rfl⟩, .inr hJx3⟩
      · have hg1 : (roleAt l1 k == 1) = false := beq_eq_false_iff_ne.2 hg
        have hg2 : (roleAt l1 k != 1) = true := bne_iff_ne.2 hg
        have HS := Aside0.mk (show tabs_Step.f 9 c.f0 c.f1 c.f2 c.f3 c.f4 c.f5 y = some (a, e) by unfold penOf at hpo; rw [if_neg hg] at hpo; exact hpo)
        clear hg hpo
        gi_wp2_with (first | (refine ⟨trivial, ?_⟩; gi_at_call 54; refine (callsIn_wide.2 (tabs_role.calls A1 c1 l1 k _ _ (Kd.C_alloc Hc.out _) hc1 (role_some l1 k))).mono ?_; rintro e w' ⟨rfl, ⟨nd, rfl⟩⟩) | (refine ⟨trivial, ?_⟩; gi_at_call 55; refine (callsIn_wide.2 (tabs_Step.calls 9 c.f0 c.f1 c.f2 c.f3 c.f4 c.f5 y a e _ HS.out)).mono ?_; rintro e_ w5 ⟨rfl, hb⟩))
        have hB5 : Below wr.heap.size wr w5 := below_step (pw_below_drewN (below_alloc (Below.refl _ _) _) nd) hb
        have hJ5 := hJ _ _ _ hJs hB5
        have hK5 := hK.below hB5
        clear hJs hK hd0 hd1 hd2 hd3 hd4 hd5 br2 Hc Hr
        by_cases he : e = 0
        · subst he
          obtain ⟨ys, hys, hpy⟩ : ∃ ys, rest = (a, 0) :: ys ∧ pensL l1 (l0.drop (k + 1)) (k + 1) a = some ys := by
            rcases HO.out with ⟨_, ys, h1, h2⟩ | ⟨h1, _⟩
            · exact ⟨ys, h1, h2⟩
            · exact absurd rfl h1
          have HP := Aside0.mk hpy
          have hx2 := HX.out
          rw [hys] at hx2
          obtain ⟨fn, tmps, assign, body, hy, hR⟩ := hY pre (a, 0) ys w5 hx2 hJ5
          have HX2 := Aside0.mk hx2
          clear hx2 hys hpy HO
          dsimp only at hy
          rw [hy]
          gi_wp2
          refine hR.mono ?_
          rintro e_ W3 (⟨rfl, hJ3, hk3⟩ | ⟨rfl, hJx3⟩)
          · gi_wp2
            go_roundw
            case rel => exact ⟨k + 1, a, pre ++ [(a, 0)], ys, by omega, by go_num, rfl, rfl, HP.out, by rw [HX2.out]; simp, hJ3, hK5.trans hk3⟩
            case measure => simp [intOf]; omega
          · gi_wp2
            refine bodyPost_ret (results_none rfl _ _ _) rfl ?_
            exact ⟨⟨_, rfl⟩, .inr hJx3⟩
        · have hys : rest = [(a, e)] := by
            rcases HO.out with ⟨h1, _⟩ | ⟨_, h1⟩
            · exact absurd h1 he
            · exact h1
          have hx2 := HX.out
          rw [hys] at hx2
          obtain ⟨fn, tmps, assign, body, hy, hR⟩ := hY pre (a, e) [] w5 hx2 hJ5
          have HX2 := Aside0.mk hx2
          clear hx2 hys HO
          have he1 : (e == 0) = false := beq_eq_false_iff_ne.2 he
          have he2 : (e != 0) = true := bne_iff_ne.2 he
          dsimp only at hy
          rw [hy]
          gi_wp2
          refine hR.mono ?_
          rintro e_ W3 (⟨rfl, hJ3, hk3⟩ | ⟨rfl, hJx3⟩)
          · gi_wp2
            refine bodyPost_ret (results_none rfl _ _ _) rfl ?_
            exact ⟨⟨_, rfl⟩, .inl (by rw [HX2.out]; exact hJ3)⟩
          · gi_wp2
            refine bodyPost_ret (results_none rfl _ _ _) rfl ?_
            exact ⟨⟨_, rfl⟩, .inr hJx3⟩
    · obtain rfl : k = l0.length := by omega
      have hr0 : rest = [] := by have h2 := Hp.out; rw [List.drop_length] at h2; simp only [pensL, Option.some.injEq] at h2; exact h2.symm
      have hx2 := HX.out
      rw [hr0, List.append_nil] at hx2
      subst hx2
      clear hr0 Hp HX
      gi_wp2
      go_end0
      exact ⟨⟨_, rfl⟩, .inl hJs⟩

attribute [local go_sem] Oper.semAt_some
theorem pens_any (A0 : Option Addr) (n0 c0 : Nat) (A1 : Option Addr) (n1 c1 : Nat) (x : Int) (w : World) : Calls Try.prog 35 #[.slice A0 n0 c0, .slice A1 n1 c1, .int .i64 x] w fun e w' =>
    e = .returned (.func (.func 53) #[] #[.pointer (some ⟨w.heap.size + 2, 0, none⟩), .pointer (some ⟨w.heap.size, 0, none⟩), .pointer (some ⟨w.heap.size + 1, 0, none⟩)]) ∧
      ((w.alloc (.cells #[.slice A0 n0 c0] 22)).alloc (.cells #[.slice A1 n1 c1] 58)).alloc (.cells #[.int .i64 x] 2) = w' := by
  go_enter Try.func35, Try.ntmps35
  go_wp2
  go_ret
  exact ⟨rfl, rfl⟩

def badTab (c : S53) : Bool := c.f0 == 4 && decide (c.f3 < 0)
/-- The error with which pens end, or 0. -/
def lastE (ps : List (Int × Int)) : Int := match ps.getLast? with | none => 0 | some p => p.2
def tabs_Pens.f (l0 : List S53) (l1 : List Int) (a2 : Int) : Option (List Int × Int) :=
  if l0.length ≤ 1000000000000 then (if l0.any badTab then some ([], 2) else (unit_Sum.f [a2]).bind fun s => if s.2 = 0 then (pensL l1 l0 0 a2).bind fun ps => (if lastE ps = 0 then some (a2 :: ps.map (·.1), 0) else some ([], lastE ps)) else some ([], s.2)) else none

/-- What the call's own results hold, and that nothing that lay has turned. -/
structure PensAt (w : World) (W : World) : Prop where
  r : Boxed W w.heap.size 55 (.slice none 0 0)
  e : Boxed W (w.heap.size + 1) 32 (.int .i64 0)
  below : Below w.heap.size w W
/-- What holds at a round's begin. -/
def PensI (w : World) (z : Nat) (pre : List (Int × Int)) (a2 : Int) (W : World) : Prop :=
  PensAt w W ∧ (∃ v, Boxed W (z + 1) 55 v ∧ Kd.R (Kd.int .i64) 2 W w.heap.size (fun k => k ≠ z + 2 ∧ k ≠ z + 3 ∧ k ≠ z + 4) v (a2 :: pre.map (·.1))) ∧ ∀ q ∈ pre, q.2 = 0
/-- What holds where an error has ended the loop. -/
def PensX (w : World) (xs : List (Int × Int)) (c : Code) (W : World) : Prop :=
  c = .ret ∧ ∃ e : Int, (e ≠ 0 ∧ e = lastE xs) ∧ Boxed W w.heap.size 55 (.slice none 0 0) ∧ Boxed W (w.heap.size + 1) 32 (.int .i64 e) ∧ Below w.heap.size w W
theorem PensAt.bide {w : World} {B : Nat} (hB : w.heap.size ≤ B) : Bide B (PensAt w) := fun W W' row h hg hr =>
  ⟨Bide.boxed _ _ _ W W' row h.r hg hr, Bide.boxed _ _ _ W W' row h.e hg hr, Bide.below (Nat.le_refl _) hB W W' row h.below hg hr⟩
theorem PensAt.step {w W W' : World} (h : PensAt w W) (hb : Below W.heap.size W W') : PensAt w W' := ⟨boxed_below h.r hb, boxed_below h.e hb, below_step h.below hb⟩
theorem pensL_last {rs : List Int} : ∀ {l : List S53} {i : Nat} {x : Int} {xs pre rest : List (Int × Int)} {p : Int × Int}, pensL rs l i x = some xs → xs = pre ++ p :: rest → p.2 ≠ 0 → rest = []
  | [], i, x, xs, pre, rest, p, h, he, hp => by
    simp only [pensL, Option.some.injEq] at h
    rw [← h] at he
    simp at he
  | c :: l, i, x, xs, pre, rest, p, h, he, hp => by
    obtain ⟨a, e, _, (⟨h0, ys, rfl, h2⟩ | ⟨h0, rfl⟩)⟩ := pensL_cons h
    · cases pre with
      | nil =>
        simp only [List.nil_append, List.cons.injEq] at he
        rw [← he.1] at hp
        exact absurd h0 hp
      | cons q pre =>
        simp only [List.cons_append, List.cons.injEq] at he
        exact pensL_last h2 he.2 hp
    · cases pre with
      | nil => simp at he; exact he.2
      | cons q pre => simp at he
theorem pensL_len {rs : List Int} : ∀ {l : List S53} {i : Nat} {x : Int} {xs : List (Int × Int)}, pensL rs l i x = some xs → xs.length ≤ l.length
  | [], i, x, xs, h => by
    simp only [pensL, Option.some.injEq] at h
    simp [← h]
  | c :: l, i, x, xs, h => by
    obtain ⟨a, e, _, (⟨h0, ys, rfl, h2⟩ | ⟨h0, rfl⟩)⟩ := pensL_cons h
    · have := pensL_len h2
      simp; omega
    · simp
theorem lastE_zero {ps : List (Int × Int)} (h : ∀ q ∈ ps, q.2 = 0) : lastE ps = 0 := by
  unfold lastE
  cases e : ps.getLast? with
  | none => rfl
  | some p => exact h p (List.mem_of_getLast? e)
theorem lastE_snoc (ps : List (Int × Int)) (p : Int × Int) : lastE (ps ++ [p]) = p.2 := by simp [lastE]

set_option maxRecDepth 100000 in
set_option maxHeartbeats 4000000 in
theorem tabs_Pens.calls (A0 : Option Addr) (c0 : Nat) (l0 : List S53) (A1 : Option Addr) (c1 : Nat) (l1 : List Int) (a2 : Int) (r1 : List Int) (r2 : Int) (w : World) (hr0 : Kd.C k53 w A0 l0.length l0) (hc0 : l0.length ≤ c0) (hr1 : Kd.C (Kd.int .u8) w A1 l1.length l1) (hc1 : l1.length ≤ c1)
    (h : tabs_Pens.f l0 l1 a2 = some (r1, r2)) :
    Calls Try.prog 18 #[.slice A0 l0.length c0, .slice A1 l1.length c1, .int .i64 a2] w fun e w' => ∃ v0_ : Value, e = .returned (.tuple #[v0_, .int .i64 r2]) ∧ Kd.R (Kd.int .i64) 2 w' w.heap.size (fun _ => True) v0_ r1 ∧ Below w.heap.size w w' := by
  have hmx : l0.length ≤ 9223372036854775807 := hr0.2.1
  refine callsIn_wide.1 (callsIn_of_wp_marks (n := 9) Try.func18 rfl trivial (wpIn_wide.2 ?_) rfl)
  simp only [Try.ntmps18, List.size_toArray, List.length_cons, List.length_nil, Nat.reduceAdd, Nat.reduceSub, Array.replicate_succ, Array.replicate_zero, List.push_toArray, List.append_toArray, List.nil_append, List.cons_append]
  go_wp2_with fail
  have hA : PensAt w ((w.alloc (.cells #[.slice none 0 0] 55)).alloc (.cells #[.int .i64 0] 32)) :=
    ⟨(Boxed.new w 55 (.slice none 0 0)).alloc _, by have := Boxed.new (w.alloc (.cells #[.slice none 0 0] 55)) 32 (.int .i64 0); rwa [World.size_alloc] at this, ((Below.refl _ w).alloc (Nat.le_refl _) _).alloc (by simp) _⟩
  generalize (w.alloc (.cells #[.slice none 0 0] 55)).alloc (.cells #[.int .i64 0] 32) = W1 at hA ⊢
  go_loopw [17] (fun i wr => ∃ k : Nat, k ≤ l0.length ∧ i = .int .i64 k ∧ (l0.take k).any badTab = false ∧ PensAt w wr) (fun i _ => l0.length - (intOf i).toNat)
  case atStart => exact ⟨0, Nat.zero_le _, rfl, by simp, hA⟩
  case round =>
    clear hA W1
    obtain ⟨k, hk, rfl, hb, hA⟩ := hrel
    have HB := Aside0.mk hb
    clear hb
    by_cases hlt : k < l0.length
    · obtain ⟨ad, rfl, hd0, hd1, hd2, hd3, hd4, hd5⟩ := at_T53 (Kd.C_below hr0 hA.below) (k : Int) (by omega) (by omega)
      simp only [Int.toNat_natCast] at hd0 hd1 hd2 hd3 hd4 hd5
      have hany : (l0.take (k + 1)).any badTab = badTab (rd_T53 l0 k) := by
        rw [List.take_add_one, List.any_append, HB.out]
        simp [rd_T53, List.getD, hlt]
      have HN := Aside0.mk hany
      have HX := Aside0.mk (show badTab (rd_T53 l0 k) = true → l0.any badTab = true from fun e => List.any_eq_true.2 ⟨_, by simp [rd_T53, List.getD, hlt], e⟩)
      clear hany
      generalize rd_T53 l0 k = c at hd0 hd1 hd2 hd3 hd4 hd5 HN HX
      have hbx := fun (o : Obj) => hA.step ((Below.refl _ wr).alloc (Nat.le_refl _) o)
      by_cases h4 : c.f0 = 4
      · have h4a : (c.f0 == 4) = true := beq_iff_eq.2 h4
        by_cases hneg : c.f3 < 0
        · have hn1 : decide (c.f3 < 0) = true := decide_eq_true hneg
          have hbt := HX.out (by unfold badTab; rw [h4a, hn1]; rfl)
          have hf := h
          unfold tabs_Pens.f at hf
          have hlen : l0.length ≤ 1000000000000 := Classical.byContradiction fun hc => by rw [if_neg hc] at hf; cases hf
          rw [if_pos hlen, if_pos hbt] at hf
          simp only [Option.some.injEq, Prod.mk.injEq] at hf
          obtain ⟨rfl, rfl⟩ := hf
          clear h hbt h4 hneg
          have q1 := fun o => (hbx o).r.cell
          have q2 := fun o => (hbx o).r.frozen
          have q3 := fun o => (hbx o).e.cell
          have q4 := fun o => (hbx o).e.frozen
          go_wp2_with fail
          exact leave_si rfl Try.underlying55 Try.underlying32 _ _ _ _ rfl rfl (by go_simp) (by go_simp) ⟨_, rfl, Kd.R_nil _ _ _ _ _, ((hbx _).below.setCell (p := ⟨w.heap.size, 0, none⟩) (by simp) _).setCell (p := ⟨w.heap.size + 1, 0, none⟩) (by simp) _⟩
        · have hn1 : decide (c.f3 < 0) = false := decide_eq_false hneg
          have hbn : badTab c = false := by unfold badTab; rw [h4a, hn1]; rfl
          clear h4 hneg
          go_wp2_with fail
          go_roundw
          case rel => exact ⟨k + 1, by omega, by go_num, by rw [HN.out, hbn], hbx _⟩
          case measure => simp [intOf]; omega
      · have h4a : (c.f0 == 4) = false := beq_eq_false_iff_ne.2 h4
        have hbn : badTab c = false := by unfold badTab; rw [h4a]; rfl
        clear h4
        go_wp2_with fail
        go_roundw
        case rel => exact ⟨k + 1, by omega, by go_num, by rw [HN.out, hbn], hbx _⟩
        case measure => simp [intOf]; omega
    · obtain rfl : k = l0.length := by omega
      have hb := HB.out
      rw [List.take_length] at hb
      have hf := h
      unfold tabs_Pens.f at hf
      have hlen : l0.length ≤ 1000000000000 := Classical.byContradiction fun hc => by rw [if_neg hc] at hf; cases hf
      rw [if_pos hlen, hb, if_neg (by simp)] at hf
      obtain ⟨⟨s1, s2⟩, hs, hf2⟩ := Option.bind_eq_some_iff.1 hf
      simp only at hf2
      have HS := Aside0.mk hs
      have HF := Aside0.mk hf2
      clear h hs hf hf2 hb HB
      have hbx := fun (W' : World) (hb : Below wr.heap.size wr W') => hA.step hb
      by_cases hs0 : s2 = 0
      · subst hs0
        have hf := HF.out
        rw [if_pos rfl] at hf
        obtain ⟨xs, hxs, hf2⟩ := Option.bind_eq_some_iff.1 hf
        have HXS := Aside0.mk hxs
        have HF2 := Aside0.mk hf2
        clear hxs hf hf2 HF
        go_wp2_with (first | (go_at_call 34; refine (unit_Sum.calls _ 1 [a2] s1 0 _ (C_one wr _ a2) (by simp) HS.out).mono ?_; rintro e w5 ⟨rfl, ⟨nd, rfl⟩⟩; have hq := hbx _ (pw_below_drewN (below_alloc (Below.refl _ wr) (.cells #[.int .i64 a2] 2)) nd)) | (go_at_call 35; refine (pens_any A0 l0.length c0 A1 l1.length c1 a2 _).mono ?_; rintro e w6 ⟨rfl, rfl⟩))
        clear hbx
        generalize hW5 : (wr.alloc (.cells #[.int .i64 a2] 2)).drewN nd = W5 at hq ⊢
        have hz5 : W5.heap.size = wr.heap.size + 1 := by rw [← hW5]; simp
        clear hW5
        have zq := hq.e.lt
        rw [show wr.heap.size + 1 = W5.heap.size from hz5.symm]
        have hR1 := R_one W5 2 a2 w.heap.size (fun k => k ≠ W5.heap.size + 2 ∧ k ≠ W5.heap.size + 3 ∧ k ≠ W5.heap.size + 4) (k := .i64) (by omega) (by omega)
        generalize hW6 : W5.alloc (.cells #[.int .i64 a2] 2) = W6 at hR1 ⊢
        have hz6 : W6.heap.size = W5.heap.size + 1 := by rw [← hW6]; simp
        have hq6 := hq.step (W' := W6) (by rw [← hW6]; exact below_alloc (Below.refl _ _) _)
        clear hW6 hq
        have bo := boxed_new W6 (W5.heap.size + 1) 55 (.slice (some ⟨W5.heap.size, 0, none⟩) 1 1) hz6
        have hR2 := Kd.R_below hR1 (below_alloc (Below.refl _ W6) (.cells #[.slice (some ⟨W5.heap.size, 0, none⟩) 1 1] 55))
        have hq7 := hq6.step (below_alloc (Below.refl _ W6) (.cells #[.slice (some ⟨W5.heap.size, 0, none⟩) 1 1] 55))
        generalize hW7 : W6.alloc (.cells #[.slice (some ⟨W5.heap.size, 0, none⟩) 1 1] 55) = W7 at hR2 bo hq7 ⊢
        have hz7 : W7.heap.size = W5.heap.size + 2 := by rw [← hW7]; simp; omega
        clear hW7 hR1 hq6
        have hb8 : Below W7.heap.size W7 (((W7.alloc (.cells #[.slice A0 l0.length c0] 22)).alloc (.cells #[.slice A1 l1.length c1] 58)).alloc (.cells #[.int .i64 a2] 2)) := below_alloc (below_alloc (below_alloc (Below.refl _ _) _) _) _
        have bl := boxed_below (boxed_below (boxed_new W7 (W5.heap.size + 2) 22 (.slice A0 l0.length c0) hz7) (below_alloc (Below.refl _ _) (.cells #[.slice A1 l1.length c1] 58))) (below_alloc (Below.refl _ _) (.cells #[.int .i64 a2] 2))
        have br := boxed_below (boxed_new (W7.alloc (.cells #[.slice A0 l0.length c0] 22)) (W5.heap.size + 3) 58 (.slice A1 l1.length c1) (by simp; omega)) (below_alloc (Below.refl _ _) (.cells #[.int .i64 a2] 2))
        have bx := boxed_new ((W7.alloc (.cells #[.slice A0 l0.length c0] 22)).alloc (.cells #[.slice A1 l1.length c1] 58)) (W5.heap.size + 4) 2 (.int .i64 a2) (by simp; omega)
        have hz8 : (((W7.alloc (.cells #[.slice A0 l0.length c0] 22)).alloc (.cells #[.slice A1 l1.length c1] 58)).alloc (.cells #[.int .i64 a2] 2)).heap.size = W5.heap.size + 5 := by simp; omega
        generalize ((W7.alloc (.cells #[.slice A0 l0.length c0] 22)).alloc (.cells #[.slice A1 l1.length c1] 58)).alloc (.cells #[.int .i64 a2] 2) = W8 at hb8 bl br bx hz8 ⊢
        have bo8 := boxed_below bo hb8
        have hR8 := Kd.R_below hR2 hb8
        have hq8 := hq7.step hb8
        clear bo hR2 hq7 hb8
        clear hz5 hz6 hz7
        generalize W5.heap.size = z5 at *
        have hlx := pensL_len HXS.out
        refine wp_range (gf := 53) (lb := #[.pointer (some ⟨z5 + 4, 0, none⟩), .pointer (some ⟨z5 + 2, 0, none⟩), .pointer (some ⟨z5 + 3, 0, none⟩)]) (n₀ := w.heap.size) (Bs := [z5 + 4, z5 + 2, z5 + 3]) rfl (enters_of Try.func53 (by kernel_rfl) rfl)
          (pens_iter (z5 + 4) (z5 + 2) (z5 + 3) w.heap.size A0 c0 l0 A1 c1 l1 a2 xs W8 bx bl br (Kd.C_below hr0 hq8.below) (Kd.C_below hr1 hq8.below) hc1 (block_of_C hr0 z53 (by decide)) (block_of_C hr1 0 (by decide)) HXS.out)
          (by omega) (by simp; omega) (fun _ => rfl)
          (fun pre => PensI w z5 pre a2) (PensX w xs)
          ?cI ?cX ⟨hq8, ⟨_, bo8, hR8⟩, fun q hq => by cases hq⟩ ?a1 ?assign ?body ?done ?stop
        case cI => exact fun _ => (PensAt.bide (by omega)).and ((Bide.ex fun _ => (Bide.boxed _ _ _).and (Bide.row _ _ _ _ _ _)).and (Bide.const _))
        case cX => exact fun _ => (Bide.const _).and (Bide.ex fun _ => (Bide.const _).and ((Bide.boxed _ _ _).and ((Bide.boxed _ _ _).and (Bide.below (Nat.le_refl _) (by omega)))))
        case assign =>
          intro l x W K hK
          gi_wp2
          exact hK
        case body =>
          rintro l pre ⟨a, e⟩ rest W hx hzW ⟨hA6, ⟨v, hbo, hrow⟩, hpre⟩
          have hzz : z5 + 5 ≤ W.heap.size := by omega
          clear hz8 bx bl br bo8 hR8 hq8
          have HX := Aside0.mk hx
          have HP := Aside0.mk hpre
          have Hrow := Aside0.mk hrow
          clear hx hpre hrow
          by_cases he : e = 0
          · have e1 : (e == 0) = true := beq_iff_eq.2 he
            have e2 : (e != 0) = false := bne_eq_false_iff_eq.2 he
            have HE := Aside0.mk he
            clear he
            have q0 := hbo.cell
            have zs : w.heap.size ≤ W.heap.size := hA6.below.size
            have hlp : pre.length + 1 ≤ xs.length := by rw [HX.out]; simp
            have zl : ((a2 :: pre.map (·.1)).length + 1) * 8 ≤ 140737488355328 := by simp; omega
            obtain ⟨ys, hys⟩ : ∃ ys, (a2 :: pre.map (·.1)) ++ [a] = ys := ⟨_, rfl⟩
            have Hys := Aside0.mk hys
            clear hys
            refine wpIn_block (wpIn_seq_k fun K hK => ?_)
            have HK := Lib.hid hK
            clear hK
            gi_wp2
            refine HK.out _ _ (round_region (fun _ _ h => h) (by rfl) ?_)
            clear HK
            go_wp2_with (first | (at_builtin; refine Aside0.out ?_))
            refine Aside0.mk ?_
            refine Kd.R_append (Kd.int .i64) (w0 := w) w.heap.size rfl (.tmp 50) (.tmp 52) 55 2 (.int .i64 0) 8 rfl Try.underlying55 info2 rfl (by decide) (by omega) v _ a [.int .i64 a] (fun k => k ≠ z5 + 2 ∧ k ≠ z5 + 3 ∧ k ≠ z5 + 4) (fun _ => False) rfl rfl rfl (fun _ hk => hk.elim) (fun k hk => by omega) Hrow.out hA6.below zs zl ?_
            intro v1 w1 hown1 hb1 hg1 _
            rw [Hys.out] at hown1
            obtain ⟨A1_, c1_, rfl⟩ := Kd.R_slice hown1
            have bo1 : Boxed w1 (z5 + 1) 55 v := blk_appended hbo Hrow.out hg1 (.inl (by decide))
            have co1 := bo1.cell
            have fo1 := bo1.frozen
            go_wp2_with fail
            have hBs : ∀ B ∈ [z5 + 4, z5 + 2, z5 + 3], ¬ (fun k => k ≠ z5 + 2 ∧ k ≠ z5 + 3 ∧ k ≠ z5 + 4) B ∨ ∃ cs t, W.heap[B]? = some (.cells cs t (0, 0)) ∧ 2 ≠ t := fun B hB => .inl (by simp at hB; rcases hB with rfl | rfl | rfl <;> simp)
            have hT := (Tame.refl w.heap.size [z5 + 4, z5 + 2, z5 + 3] W).appended Hrow.out hg1 (Nat.le_refl _) hBs
            refine ⟨hT.setCell (p := ⟨z5 + 1, 0, none⟩) bo1 (by simp; omega) (by simp) _, ⟨blk_far (p := ⟨z5 + 1, 0, none⟩) (blk_appended hA6.r Hrow.out hg1 (.inl (by decide))) (by simp; omega) _, blk_far (p := ⟨z5 + 1, 0, none⟩) (blk_appended hA6.e Hrow.out hg1 (.inl (by decide))) (by simp; omega) _, hb1.setCell (p := ⟨z5 + 1, 0, none⟩) (by simp; omega) _⟩, ⟨_, bo1.set _, ?_⟩, ?_⟩
            · have hR := Kd.R_set hown1 bo1 (by decide) 0 (.slice A1_ ys.length c1_)
              rw [show a2 :: (pre ++ [(a, e)]).map (·.1) = ys by rw [← Hys.out]; simp]
              exact hR
            · intro q hq
              rcases List.mem_append.1 hq with h1 | h1
              · exact HP.out q h1
              · rw [List.mem_singleton] at h1; rw [h1]; exact HE.out
          · have e1 : (e == 0) = false := beq_eq_false_iff_ne.2 he
            have e2 : (e != 0) = true := bne_iff_ne.2 he
            have HE := Aside0.mk he
            clear he
            have q1 := hA6.r.cell
            have q2 := hA6.r.frozen
            have q3 := hA6.e.cell
            have q4 := hA6.e.frozen
            gi_wp2
            have he2 : rest = [] := pensL_last HXS.out HX.out HE.out
            have hl2 : e = lastE xs := by rw [HX.out, he2, lastE_snoc]
            refine ⟨((Tame.refl w.heap.size [z5 + 4, z5 + 2, z5 + 3] W).setCell (p := ⟨w.heap.size, 0, none⟩) hA6.r (by simp) (by simp; omega) _).setCell (p := ⟨w.heap.size + 1, 0, none⟩) (blk_far (p := ⟨w.heap.size, 0, none⟩) hA6.e (by simp) _) (by simp) (by simp; omega) _, rfl, e, ⟨HE.out, hl2⟩, blk_far (p := ⟨w.heap.size + 1, 0, none⟩) (hA6.r.set _) (by simp) _, boxed_set (blk_far (p := ⟨w.heap.size, 0, none⟩) hA6.e (by simp) _) _, (hA6.below.setCell (p := ⟨w.heap.size, 0, none⟩) (by simp) _).setCell (p := ⟨w.heap.size + 1, 0, none⟩) (by simp) _⟩
        case done =>
          rintro D W hD ⟨hA6, ⟨v, hbo, hrow⟩, hpre⟩ hK
          have hzD : z5 + 5 ≤ D := by omega
          clear hz8 bx bl br bo8 hR8 hq8
          have hf := HF2.out
          rw [if_pos (lastE_zero hpre)] at hf
          simp only [Option.some.injEq, Prod.mk.injEq] at hf
          obtain ⟨rfl, rfl⟩ := hf
          obtain ⟨ys, hys⟩ : ∃ ys, a2 :: xs.map (·.1) = ys := ⟨_, rfl⟩
          rw [hys] at hrow
          have HY := Aside0.mk hys
          clear hys
          obtain ⟨A1_, c1_, rfl⟩ := Kd.R_slice hrow
          have Hrow := Aside0.mk hrow
          have q0 := hbo.cell
          have q1 := hA6.r.cell
          have q2 := hA6.r.frozen
          have q3 := hA6.e.cell
          have q4 := hA6.e.frozen
          have k1 : W.heap[D]? = some (.deferred (some [])) := hK
          clear hrow hpre HF2 hK
          go_wp2_with fail
          have k2 := (Below.heap_setCell (W.setCell ⟨w.heap.size, 0, none⟩ (.slice A1_ ys.length c1_)) ⟨w.heap.size + 1, 0, none⟩ (.int .i64 0) D (by simp; omega)).trans ((Below.heap_setCell W ⟨w.heap.size, 0, none⟩ (.slice A1_ ys.length c1_) D (by simp; omega)).trans k1)
          have b1 : Boxed ((W.setCell ⟨w.heap.size, 0, none⟩ (.slice A1_ ys.length c1_)).setCell ⟨w.heap.size + 1, 0, none⟩ (.int .i64 0)) w.heap.size 55 (.slice A1_ ys.length c1_) := blk_far (p := ⟨w.heap.size + 1, 0, none⟩) (boxed_set hA6.r _) (by simp) _
          have b2 : Boxed ((W.setCell ⟨w.heap.size, 0, none⟩ (.slice A1_ ys.length c1_)).setCell ⟨w.heap.size + 1, 0, none⟩ (.int .i64 0)) (w.heap.size + 1) 32 (.int .i64 0) := boxed_set (blk_far (p := ⟨w.heap.size, 0, none⟩) hA6.e (by simp) _) _
          have r2 := Kd.R_set (Kd.R_set Hrow.out hA6.r (by decide) 0 (.slice A1_ ys.length c1_)) (blk_far (p := ⟨w.heap.size, 0, none⟩) hA6.e (by simp) (.slice A1_ ys.length c1_)) (by decide) 0 (.int .i64 0)
          exact leave_mark k2 (leave_si rfl Try.underlying55 Try.underlying32 _ _ _ _ rfl rfl (Boxed.cell (blk_putObj _ b1 (by omega))) (Boxed.cell (blk_putObj _ b2 (by omega)))
            ⟨_, rfl, by rw [HY.out]; exact row_putObj _ (Kd.R_mono r2 (fun _ _ => trivial)) k2 rfl, below_putObj _ ((hA6.below.setCell (p := ⟨w.heap.size, 0, none⟩) (by simp) _).setCell (p := ⟨w.heap.size + 1, 0, none⟩) (by simp) _) (by omega)⟩)
        case stop =>
          rintro D c W hD ⟨rfl, e, ⟨he, hel⟩, hbr, hbe, hbl⟩ hK
          have hzD : z5 + 5 ≤ D := by omega
          clear hz8 bx bl br bo8 hR8 hq8
          have hf := HF2.out
          rw [if_neg (fun h0 => he (hel.trans h0)), ← hel] at hf
          simp only [Option.some.injEq, Prod.mk.injEq] at hf
          obtain ⟨rfl, rfl⟩ := hf
          clear HF2 hel he
          go_wp2_with fail
          exact leave_mark hK (leave_si rfl Try.underlying55 Try.underlying32 _ _ _ _ rfl rfl (Boxed.cell (blk_putObj _ hbr (by omega))) (Boxed.cell (blk_putObj _ hbe (by omega))) ⟨_, rfl, Kd.R_nil _ _ _ _ _, below_putObj _ hbl (by omega)⟩)
      · have hf := HF.out
        rw [if_neg hs0] at hf
        simp only [Option.some.injEq, Prod.mk.injEq] at hf
        obtain ⟨rfl, rfl⟩ := hf
        have e1 : (s2 == 0) = false := beq_eq_false_iff_ne.2 hs0
        have e2 : (s2 != 0) = true := bne_iff_ne.2 hs0
        clear hs0 HF
        go_wp2_with (first | (go_at_call 34; refine (unit_Sum.calls _ 1 [a2] s1 s2 _ (C_one wr _ a2) (by simp) HS.out).mono ?_; rintro e w5 ⟨rfl, ⟨nd, rfl⟩⟩; have hq := hbx _ (pw_below_drewN (below_alloc (Below.refl _ wr) (.cells #[.int .i64 a2] 2)) nd); have q1 := hq.r.cell; have q2 := hq.r.frozen; have q3 := hq.e.cell; have q4 := hq.e.frozen))
        exact leave_si rfl Try.underlying55 Try.underlying32 _ _ _ _ rfl rfl (by go_simp) (by go_simp) ⟨_, rfl, Kd.R_nil _ _ _ _ _, (hq.below.setCell (p := ⟨w.heap.size, 0, none⟩) (by simp) _).setCell (p := ⟨w.heap.size + 1, 0, none⟩) (by simp) _⟩
end

end Go.Proofs.Ytkaiibipcnlaiaa.HEllW
