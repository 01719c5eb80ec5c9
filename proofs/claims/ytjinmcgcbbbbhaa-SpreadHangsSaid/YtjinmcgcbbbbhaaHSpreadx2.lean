-- Written by this claim's own program over the kit's print.
import Derived.Test.YtjinmcgcbbbbhaaHSpreadx0
import Derived.Test.YtjinmcgcbbbbhaaHand1
import Derived.StillTailTactics
namespace Go.Proofs.Ytjinmcgcbbbbhaa.HSpread
open Go.RowKit Go.Proofs.YtjinmcgcbbbbhaaW.PrintWords Go.Proofs.YtjinmcgcbbbbhaaW.PrintLast Go.Proofs.YtjinmcgcbbbbhaaW.PrintMore
attribute [local go_sem] max2_int min2_int max_two min_two max_three min_three max_four min_four   -- for this text's walks alone
set_option linter.unusedVariables false
set_option linter.unusedSimpArgs false

-- BY HAND: function 21
section
open Go.Proofs.Ytjinmcgcbbbbhaa.Hand
attribute [local go_sem] Oper.semAt_some
/-- What stands ahead of piece number k. -/
def ps (l : List Int) (k : Nat) : Int := (l.take k).sum
theorem ps_succ (l : List Int) (k : Nat) (h : k < l.length) : ps l (k + 1) = ps l k + rd l k := by
  unfold ps rd
  rw [List.take_add_one, List.sum_append]
  simp [List.getD, h]
/-- What the iterator hands on: places, and what stands ahead of each; the last one is behind all. -/
def aheads (l : List Int) (n : Nat) : List (Int × Int) := (List.range n).map fun (k : Nat) => ((k : Int), ps l k)
theorem aheads_succ (l : List Int) (n : Nat) : aheads l (n + 1) = aheads l n ++ [((n : Int), ps l n)] := by simp [aheads, List.range_succ]

set_option maxRecDepth 100000 in
set_option maxHeartbeats 2000000 in
theorem ahead_iter (Bs n₀ : Nat) (A : Option Addr) (c : Nat) (l0 : List Int) (w : World) (hB : Boxed w Bs 40 (.slice A l0.length c)) (hr : Kd.C (Kd.int .i64) w A l0.length l0) (hn : ∀ ad, A = some ad → 0 < l0.length → ad.block < n₀)
    (hs : ∀ k, k ≤ l0.length → 0 ≤ ps l0 k ∧ ps l0 k ≤ 4611686018427387904) (hlen : l0.length ≤ 65536) :
    IterS Try.prog 41 #[.pointer (some ⟨Bs, 0, none⟩)] (fun x : Int × Int => #[.int .i64 x.1, .int .i64 x.2]) n₀ [Bs] (aheads l0 (l0.length + 1)) w := by
  intro l J Jx W hW hJ hJx hY h0
  have hB1 : W.cell? ⟨Bs, 0, none⟩ = some (.slice A l0.length c) := pw_cell_below hW hB.cell
  have hr1 := Kd.C_below hr hW
  have hmem : Bs ∈ [Bs] := by simp
  show CallsIn Fence.wide 8 Try.prog 41 #[.func (.yield l) #[] #[], .pointer (some ⟨Bs, 0, none⟩)] W _
  refine callsIn_of_wp Try.func41 rfl trivial ?_ rfl
  simp only [Try.ntmps41, List.size_toArray, List.length_cons, List.length_nil, Nat.reduceAdd, Nat.reduceSub, Array.replicate_succ, Array.replicate_zero, List.push_toArray, List.append_toArray, List.nil_append, List.cons_append]
  gi_wp2
  gi_loopw [3, 8] (fun v i wr => ∃ k : Nat, k ≤ l0.length ∧ i = .int .i64 k ∧ v = .int .i64 (ps l0 k) ∧ J (aheads l0 k) wr ∧ KeepI n₀ [Bs] W wr) (fun _ i _ => l0.length - (intOf i).toNat)
  case atStart => exact ⟨0, Nat.zero_le _, rfl, by simp [ps], h0, KeepI.refl _ _ _⟩
  case round =>
    obtain ⟨k, hk, rfl, rfl, hJs, hK⟩ := hrel
    have hbx : wr.cell? ⟨Bs, 0, none⟩ = some (.slice A l0.length c) := hK.cell (.inr hmem) hB1
    by_cases hlt : k < l0.length
    · obtain ⟨ad, rfl, hc0⟩ := Kd.at_int hr1 (k : Int) (by omega) (by omega)
      have hc1 : wr.cell? (ad.add k) = some (.int .i64 (rd l0 k)) := hK.cell (.inl (by rw [add_block]; exact hn ad rfl (by omega))) (by simpa using hc0)
      obtain ⟨rest, hrest⟩ := map_range_split (fun (k : Nat) => ((k : Int), ps l0 k)) (show k < l0.length + 1 by omega)
      obtain ⟨fn, tmps, assign, body, hy, hR⟩ := hY (aheads l0 k) ((k : Int), ps l0 k) rest wr hrest hJs
      clear hrest
      dsimp only at hy
      have hs1 := hs k hk
      have hs2 := hs (k + 1) hlt
      rw [ps_succ l0 k hlt] at hs2
      gi_wp2
      refine hR.mono ?_
      rintro e W3 (⟨rfl, hJ3, hk3⟩ | ⟨rfl, hJx3⟩)
      · gi_wp2
        go_roundw
        case rel => exact ⟨k + 1, by omega, by go_num, by rw [ps_succ l0 k hlt], by rw [aheads_succ]; exact hJ3, hK.trans hk3⟩
        case measure => simp [intOf]; omega
      · gi_wp2
        refine bodyPost_ret (results_none rfl _ _ _) rfl ?_
        exact ⟨⟨_, rfl⟩, .inr hJx3⟩
    · obtain rfl : k = l0.length := by omega
      obtain ⟨fn, tmps, assign, body, hy, hR⟩ := hY (aheads l0 l0.length) ((l0.length : Int), ps l0 l0.length) [] wr (by rw [aheads_succ]) hJs
      dsimp only at hy
      gi_wp2
      refine hR.mono ?_
      rintro e W3 (⟨rfl, hJ3, hk3⟩ | ⟨rfl, hJx3⟩)
      · gi_wp2
        go_end0
        exact ⟨⟨_, rfl⟩, .inl (by rw [aheads_succ]; exact hJ3)⟩
      · gi_wp2
        go_end0
        exact ⟨⟨_, rfl⟩, .inr hJx3⟩

theorem ahead_any (A : Option Addr) (n c : Nat) (w : World) : Calls Try.prog 34 #[.slice A n c] w fun e w' => e = .returned (.func (.func 41) #[] #[.pointer (some ⟨w.heap.size, 0, none⟩)]) ∧ w.alloc (.cells #[.slice A n c] 40) = w' := by
  go_enter Try.func34, Try.ntmps34
  go_wp2
  go_ret
  exact ⟨rfl, rfl⟩

/-- What a length counts as. -/
def lim (n : Int) : Int := mx 0 (mn n 1073741824)
theorem within_any (a0 a1 a2 : Int) (w : World) : Calls Try.prog 40 #[.int .i64 a0, .int .i64 a1, .int .i64 a2] w fun e w' => e = .returned (.int .i64 (mx a1 (mn a0 a2))) ∧ w = w' := by
  obtain ⟨j1, h1⟩ : ∃ j : Int, mn a0 a2 = j := ⟨_, rfl⟩
  obtain ⟨j2, h2⟩ : ∃ j : Int, mx a1 j1 = j := ⟨_, rfl⟩
  rw [h1, h2]
  have h1_ : (if a2 < a0 then a2 else a0) = j1 := h1
  have h2_ : (if a1 < j1 then j1 else a1) = j2 := h2
  go_enter Try.func40, Try.ntmps40
  go_wp2
  go_ret
  exact ⟨rfl, rfl⟩
theorem length_any (n : Int) (w : World) : Calls Try.prog 33 #[.int .i64 n] w fun e w' => e = .returned (.int .i64 (lim n)) ∧ w = w' := by
  go_enter Try.func33, Try.ntmps33
  go_wp2_with (first | (go_at_call 40; (with_reducible refine (within_any _ _ _ _).mono ?_); rintro e w' ⟨rfl, rfl⟩))
  go_ret
  exact ⟨rfl, rfl⟩

def okLen (n : Int) : Prop := 0 ≤ n ∧ n ≤ 1073741824
instance (n : Int) : Decidable (okLen n) := by unfold okLen; exact inferInstance
theorem lim_ok {n : Int} (h : okLen n) : lim n = n := by unfold okLen at h; unfold lim mx mn; repeat' split <;> omega
theorem lim_bad {n : Int} (h : ¬ okLen n) : lim n ≠ n := by unfold okLen at h; unfold lim mx mn; repeat' split <;> omega
/-- Where pieces begin. -/
def placed (l : List Int) (a : Int) : List Int := (List.range l.length).map fun k => ps l k + (a - l.sum) * (2 * (k : Int) + 1) / (2 * (l.length : Int))
def spread_Around.f (l0 : List Int) (a1 : Int) : Option (List Int × Int) :=
  if l0.length ≤ 65536 ∧ okLen a1 ∧ ∀ x ∈ l0, okLen x then (if a1 - l0.sum < 0 then some ([], 6) else some (placed l0 a1, 0)) else some ([], 2)

set_option maxRecDepth 100000 in
set_option maxHeartbeats 4000000 in
theorem around1 (A0 : Option Addr) (c0 : Nat) (l0 : List Int) (a1 : Int) (w : World) (hr0 : Kd.C (Kd.int .i64) w A0 l0.length l0) (hc0 : l0.length ≤ c0) (hl : 65536 < l0.length) :
    Calls Try.prog 21 #[.slice A0 l0.length c0, .int .i64 a1] w fun e w' => ∃ v0_ : Value, e = .returned (.tuple #[v0_, .int .i64 2]) ∧ Kd.R (Kd.int .i64) 2 w' w.heap.size (fun _ => True) v0_ [] ∧ Below w.heap.size w w' := by
  have hd1 : decide ((l0.length : Int) ≤ 65536) = false := by simp; omega
  have hd2 : decide (l0.length ≤ 65536) = false := by simp; omega
  go_enter Try.func21, Try.ntmps21
  go_wp2_with fail
  go_quiet (fail)
  go_wp2_with fail
  go_loop [6, 7] (fun f i => f = .bool false ∧ i = .int .i64 0) (fun _ _ => 0)
  case atStart => exact ⟨rfl, rfl⟩
  case round =>
    obtain ⟨rfl, rfl⟩ := hrel
    go_wp2
    go_ret2
    exact ⟨_, rfl, Kd.R_nil _ _ _ _ _, (((Below.refl _ w).alloc (Nat.le_refl _) _).alloc (by simp) _).trans (pw_below_drewN (Below.refl _ _) _)⟩

/-- Is the number at place k of a list in order? -/
theorem all_ok_take {l : List Int} {k : Nat} (h : k < l.length) : (∀ x ∈ l.take (k + 1), okLen x) ↔ (∀ x ∈ l.take k, okLen x) ∧ okLen (rd l k) := by
  rw [List.take_add_one]
  simp only [rd, List.getD, h, List.getElem?_eq_getElem, Option.toList, List.mem_append, List.mem_singleton, or_imp, forall_and, forall_eq, Int.toNat_natCast, Option.getD]

theorem step_ok {l : List Int} {k : Nat} {good : Bool} (hlt : k < l.length) (h : good = true ∧ ∀ x ∈ l.take k, okLen x) :
    ((lim (rd l k) == rd l k) = true → good = true ∧ ∀ x ∈ l.take (k + 1), okLen x) ∧ ((lim (rd l k) == rd l k) = false → ¬ (good = true ∧ ∀ x ∈ l, okLen x)) := by
  rw [all_ok_take hlt]
  by_cases ho : okLen (rd l k)
  · rw [lim_ok ho]
    exact ⟨fun _ => ⟨h.1, h.2, ho⟩, fun e => by simp at e⟩
  · rw [beq_eq_false_iff_ne.2 (lim_bad ho)]
    exact ⟨fun e => (by cases e), fun _ h2 => ho (h2.2 _ (by simp [rd, List.getD, hlt]))⟩

theorem ps_bounds {l : List Int} (h : ∀ x ∈ l, okLen x) : ∀ k, k ≤ l.length → 0 ≤ ps l k ∧ ps l k ≤ k * 1073741824
  | 0, _ => by simp [ps]
  | k + 1, hk => by
    have ih := ps_bounds h k (by omega)
    rw [ps_succ l k (by omega)]
    have := h (rd l k) (by simp [rd, List.getD, show k < l.length by omega])
    unfold okLen at this
    omega
theorem mem_aheads {l : List Int} {n : Nat} {x : Int × Int} (h : x ∈ aheads l n) : ∃ k, k < n ∧ x = ((k : Int), ps l k) := by
  simp only [aheads, List.mem_map, List.mem_range] at h
  obtain ⟨k, hk, rfl⟩ := h
  exact ⟨k, hk, rfl⟩
theorem aheads_at {l : List Int} {n : Nat} {pre rest : List (Int × Int)} {x : Int × Int} (h : aheads l n = pre ++ x :: rest) : pre.length < n ∧ x = ((pre.length : Int), ps l pre.length) := by
  have h1 : (aheads l n)[pre.length]? = some x := by rw [h]; simp
  simp only [aheads, List.getElem?_map, Option.map_eq_some_iff] at h1
  obtain ⟨k, hk, rfl⟩ := h1
  obtain ⟨h2, h3⟩ := List.getElem?_eq_some_iff.1 hk
  simp only [List.getElem_range] at h3
  subst h3
  exact ⟨by simpa using h2, rfl⟩
theorem placed_take (l : List Int) (a : Int) {k : Nat} (h : k < l.length) : (placed l a).take (k + 1) = (placed l a).take k ++ [ps l k + (a - l.sum) * (2 * (k : Int) + 1) / (2 * (l.length : Int))] := by
  rw [List.take_add_one]
  simp [placed, h]
theorem placed_all (l : List Int) (a : Int) {k : Nat} (h : l.length ≤ k) : (placed l a).take k = placed l a := List.take_of_length_le (by simpa [placed] using h)
/-- The room that is left behind what has come. -/
def roomOf (a : Int) (pre : List (Int × Int)) : Int := match pre.getLast? with | none => a | some x => a - x.2
theorem roomOf_snoc (a : Int) (pre : List (Int × Int)) (x : Int × Int) : roomOf a (pre ++ [x]) = a - x.2 := by simp [roomOf]

/-- What the call's own boxes hold, and that nothing that lay has turned. -/
structure AroundAt (w : World) (A0 : Option Addr) (c0 : Nat) (l0 : List Int) (a1 : Int) (W : World) : Prop where
  x2 : Boxed W w.heap.size 40 (.slice A0 l0.length c0)
  x3 : Boxed W (w.heap.size + 1) 2 (.int .i64 a1)
  below : Below w.heap.size w W
theorem AroundAt.drewN {w : World} {A0 : Option Addr} {c0 : Nat} {l0 : List Int} {a1 : Int} {W : World} (h : AroundAt w A0 c0 l0 a1 W) (m : Nat) : AroundAt w A0 c0 l0 a1 (W.drewN m) := ⟨h.x2, h.x3, pw_below_drewN h.below _⟩
theorem AroundAt.bide {w : World} {A0 : Option Addr} {c0 : Nat} {l0 : List Int} {a1 : Int} {B : Nat} (hB : w.heap.size ≤ B) : Bide B (AroundAt w A0 c0 l0 a1) := fun W W' row h hg hr =>
  ⟨Bide.boxed _ _ _ W W' row h.x2 hg hr, Bide.boxed _ _ _ W W' row h.x3 hg hr, Bide.below (Nat.le_refl _) hB W W' row h.below hg hr⟩
theorem AroundAt.set {w : World} {A0 : Option Addr} {c0 : Nat} {l0 : List Int} {a1 : Int} {W : World} (h : AroundAt w A0 c0 l0 a1 W) {b : Nat} (hb : w.heap.size + 2 ≤ b) (v : Value) : AroundAt w A0 c0 l0 a1 (W.setCell ⟨b, 0, none⟩ v) :=
  ⟨blk_far (p := ⟨b, 0, none⟩) h.x2 (by simp; omega) v, blk_far (p := ⟨b, 0, none⟩) h.x3 (by simp; omega) v, h.below.setCell (p := ⟨b, 0, none⟩) (by simp; omega) v⟩
theorem AroundAt.size {w : World} {A0 : Option Addr} {c0 : Nat} {l0 : List Int} {a1 : Int} {W : World} (h : AroundAt w A0 c0 l0 a1 W) : w.heap.size + 2 ≤ W.heap.size := h.x3.lt

set_option maxRecDepth 100000 in
set_option maxHeartbeats 4000000 in
theorem around2 (A0 : Option Addr) (c0 : Nat) (l0 : List Int) (a1 : Int) (r1 : List Int) (r2 : Int) (w : World) (hr0 : Kd.C (Kd.int .i64) w A0 l0.length l0) (hc0 : l0.length ≤ c0) (hl : l0.length ≤ 65536)
    (h : spread_Around.f l0 a1 = some (r1, r2)) :
    Calls Try.prog 21 #[.slice A0 l0.length c0, .int .i64 a1] w fun e w' => ∃ v0_ : Value, e = .returned (.tuple #[v0_, .int .i64 r2]) ∧ Kd.R (Kd.int .i64) 2 w' w.heap.size (fun _ => True) v0_ r1 ∧ Below w.heap.size w w' := by
  have hd1 : decide ((l0.length : Int) ≤ 65536) = true := by simp; omega
  have hd2 : decide (l0.length ≤ 65536) = true := by simp; omega
  obtain ⟨good, hgood⟩ : ∃ b : Bool, (lim a1 == a1) = b := ⟨_, rfl⟩
  refine callsIn_wide.1 (callsIn_of_wp_marks (n := 9) Try.func21 rfl trivial (wpIn_wide.2 ?_) rfl)
  simp only [Try.ntmps21, List.size_toArray, List.length_cons, List.length_nil, Nat.reduceAdd, Nat.reduceSub, Array.replicate_succ, Array.replicate_zero, List.push_toArray, List.append_toArray, List.nil_append, List.cons_append]
  go_wp2_with fail
  go_quiet ((go_at_call 33; exact Calls.quiet_of_same ((length_any _ _).mono fun _ _ ⟨h1, h2⟩ => ⟨h1, h2.symm⟩)))
  go_wp2_with fail
  have x2 := Boxed.new w 40 (.slice A0 l0.length c0)
  have x3 := Boxed.new (w.alloc (.cells #[.slice A0 l0.length c0] 40)) 2 (.int .i64 a1)
  rw [World.size_alloc] at x3
  replace x2 := x2.alloc (.cells #[.int .i64 a1] 2)
  have hA : AroundAt w A0 c0 l0 a1 (((w.alloc (.cells #[.slice A0 l0.length c0] 40)).alloc (.cells #[.int .i64 a1] 2)).drewN nq) :=
    ⟨x2, x3, pw_below_drewN (((Below.refl _ w).alloc (Nat.le_refl _) _).alloc (by simp) _) _⟩
  clear x2 x3
  generalize (((w.alloc (.cells #[.slice A0 l0.length c0] 40)).alloc (.cells #[.int .i64 a1] 2)).drewN nq) = W1 at hA ⊢
  go_loopw [6, 7] (fun f i wr => ∃ (k : Nat) (b : Bool), k ≤ l0.length ∧ i = .int .i64 k ∧ f = .bool b ∧ ((b = true → good = true ∧ ∀ x ∈ l0.take k, okLen x) ∧ (b = false → ¬ (good = true ∧ ∀ x ∈ l0, okLen x))) ∧ AroundAt w A0 c0 l0 a1 wr) (fun _ i _ => l0.length - (intOf i).toNat)
  case atStart => exact ⟨0, good, Nat.zero_le _, rfl, rfl, ⟨fun e => ⟨e, by simp⟩, fun e h2 => by rw [e] at h2; cases h2.1⟩, hA⟩
  case round =>
    clear hA W1
    obtain ⟨k, b, hk, rfl, rfl, hb, hA⟩ := hrel
    have c2 := hA.x2.cell
    have c3 := hA.x3.cell
    cases b with
    | true =>
      have HB := Aside0.mk (hb.1 rfl)
      clear hb
      by_cases hlt : k < l0.length
      · obtain ⟨ad, rfl, hc⟩ := Kd.at_int (Kd.C_below hr0 hA.below) (k : Int) (by omega) (by omega)
        simp only [Int.toNat_natCast] at hc
        go_wp2_with fail
        go_quiet ((go_at_call 33; exact Calls.quiet_of_same ((length_any _ _).mono fun _ _ ⟨h1, h2⟩ => ⟨h1, h2.symm⟩)))
        go_wp2_with fail
        go_roundw
        case rel => exact ⟨k + 1, (lim (rd l0 k) == rd l0 k), by omega, by go_num, rfl, step_ok hlt HB.out, hA.drewN _⟩
        case measure => simp [intOf]; omega
      · obtain rfl : k = l0.length := by omega
        have c2a := (hA.x2.alloc (.cells #[.int .i64 a1] 2)).cell
        have hz := hA.size
        go_wp2_with (first | (go_at_call 34; (with_reducible refine (ahead_any _ _ _ _).mono ?_); rintro e w' ⟨rfl, rfl⟩))
        have hgd := HB.out
        rw [List.take_length] at hgd
        have hbd := ps_bounds hgd.2
        have ha1 : okLen a1 := by
          have h1 := hgd.1
          rw [← hgood, beq_iff_eq] at h1
          exact Classical.byContradiction fun hc => lim_bad hc h1
        have hBA : Below w.heap.size w ((wr.alloc (.cells #[.int .i64 a1] 2)).alloc (.cells #[.slice A0 l0.length c0] 40)) := (hA.below.alloc (by omega) _).alloc (by simp; omega) _
        have b8 := (Boxed.new wr 2 (.int .i64 a1)).alloc (.cells #[.slice A0 l0.length c0] 40)
        have b9 := Boxed.new (wr.alloc (.cells #[.int .i64 a1] 2)) 40 (.slice A0 l0.length c0)
        rw [World.size_alloc] at b9
        refine wp_range (gf := 41) (lb := #[.pointer (some ⟨wr.heap.size + 1, 0, none⟩)]) (n₀ := w.heap.size) (Bs := [wr.heap.size + 1]) rfl (enters_of Try.func41 (by kernel_rfl) rfl)
          (ahead_iter (wr.heap.size + 1) w.heap.size A0 c0 l0 _ b9 (Kd.C_below hr0 hBA) (block_of_C hr0 0 (by decide)) (fun k hk => ⟨(hbd k hk).1, by have := (hbd k hk).2; omega⟩) hl)
          (by simp; omega) (by simp) (fun _ => rfl)
          (fun pre W => AroundAt w A0 c0 l0 a1 W ∧ Boxed W wr.heap.size 2 (.int .i64 (roomOf a1 pre))) (fun _ _ => False)
          ?cI (fun _ => Bide.never) ⟨⟨(hA.x2.alloc _).alloc _, (hA.x3.alloc _).alloc _, hBA⟩, b8⟩ ?a1 ?assign ?body ?done (fun _ _ _ _ h _ => h.elim)
        case cI => exact fun _ => (AroundAt.bide (by simp; omega)).and (Bide.boxed _ _ _)
        case assign =>
          intro l x W K hK
          gi_wp2
          exact hK
        case body =>
          rintro l pre x rest W hx hzW ⟨hA2, hb8⟩
          obtain ⟨k, hk, rfl⟩ := mem_aheads (show x ∈ aheads l0 (l0.length + 1) by rw [hx]; simp)
          have hb1 := (hbd k (by omega)).1
          have hb2 := (hbd k (by omega)).2
          have hk2 : (k : Int) ≤ 65536 := by omega
          have ha2 := ha1.1
          have ha3 := ha1.2
          have d3 := hA2.x3.cell
          have d8 := hb8.cell
          have e8 := hb8.frozen
          clear hbd HB hgd hx hk
          gi_wp2
          exact ⟨(Tame.refl _ _ W).setCell (p := ⟨wr.heap.size, 0, none⟩) hb8 (by simp; omega) (by simp) _, hA2.set (by omega) _, by rw [roomOf_snoc]; exact hb8.set _⟩
        case done =>
          rintro D W hD ⟨hA2, hb8⟩ hK
          rw [aheads_succ, roomOf_snoc] at hb8
          have hps : ps l0 l0.length = l0.sum := by simp [ps]
          simp only [hps] at hb8
          have d2 := hA2.x2.cell
          have d8 := hb8.cell
          have hf := h
          unfold spread_Around.f at hf
          rw [if_pos ⟨hl, ha1, hgd.2⟩] at hf
          have hsum := hbd l0.length (Nat.le_refl _)
          rw [hps] at hsum
          have hs1 := hsum.1
          have hs2 := hsum.2
          have ha2 := ha1.1
          have ha3 := ha1.2
          by_cases hroom : a1 - l0.sum < 0
          · rw [if_pos hroom] at hf
            simp only [Option.some.injEq, Prod.mk.injEq] at hf
            obtain ⟨rfl, rfl⟩ := hf
            clear hps HB hgd hbd
            go_wp2_with fail
            exact leave_mark hK (leave2 rfl ⟨_, rfl, Kd.R_nil _ _ _ _ _, below_putObj _ hA2.below (by simp at hD; omega)⟩)
          · rw [if_neg hroom] at hf
            simp only [Option.some.injEq, Prod.mk.injEq] at hf
            obtain ⟨rfl, rfl⟩ := hf
            have Hbd := Aside0.mk hbd
            clear hps HB hgd hbd
            obtain ⟨i0, hi, hz0, hz1, hz2⟩ := info_parts info2
            have hsz := hA2.size
            have hq1 : i0.bytes * l0.length ≤ 281474976710656 := by rw [hz2]; omega
            have hq2 : l0.length ≤ maxLen := by unfold maxLen; omega
            go_wp2_with (first | (at_make; refine wpList_make_own _ rfl (.const (.int .i64 0)) (.tmp 55) 40 rfl w.heap.size 2 i0 (.int .i64 0) 1 Try.underlying40 hi hz0 hz1 .i64 .i64 _ l0.length rfl rfl rfl hq1 hq2 (by omega) ?_; intro W4 hown hgrow; have d2b := ((hA2.x2.kept hgrow (by simp)).alloc (.cells #[.slice (some ⟨W.heap.size, 0, none⟩) 0 l0.length] 40)).cell) | (go_at_call 34; (with_reducible refine (ahead_any _ _ _ _).mono ?_); rintro e w' ⟨rfl, rfl⟩))
            have z4 := hgrow.size
            have zb8 := hb8.lt
            have hA4 : AroundAt w A0 c0 l0 a1 W4 := AroundAt.bide (B := w.heap.size) (Nat.le_refl _) _ _ _ hA2 hgrow (by simp)
            have hb84 := hb8.kept hgrow (by simp)
            have hK4 : W4.heap[D]? = some (.deferred (some [])) := (hgrow.block D (Array.getElem?_eq_some_iff.1 hK).1 (by simp)).trans hK
            have bo := (Boxed.new W4 40 (.slice (some ⟨W.heap.size, 0, none⟩) 0 l0.length)).alloc (.cells #[.slice A0 l0.length c0] 40)
            have bl := Boxed.new (W4.alloc (.cells #[.slice (some ⟨W.heap.size, 0, none⟩) 0 l0.length] 40)) 40 (.slice A0 l0.length c0)
            rw [World.size_alloc] at bl
            have hA5 : AroundAt w A0 c0 l0 a1 ((W4.alloc (.cells #[.slice (some ⟨W.heap.size, 0, none⟩) 0 l0.length] 40)).alloc (.cells #[.slice A0 l0.length c0] 40)) := ⟨(hA4.x2.alloc _).alloc _, (hA4.x3.alloc _).alloc _, (hA4.below.alloc (by omega) _).alloc (by simp; omega) _⟩
            refine wp_range (gf := 41) (lb := #[.pointer (some ⟨W4.heap.size + 1, 0, none⟩)]) (n₀ := w.heap.size) (Bs := [W4.heap.size + 1]) rfl (enters_of Try.func41 (by kernel_rfl) rfl)
              (ahead_iter (W4.heap.size + 1) w.heap.size A0 c0 l0 _ bl (Kd.C_below hr0 hA5.below) (block_of_C hr0 0 (by decide)) (fun k hk => ⟨(Hbd.out k hk).1, by have := (Hbd.out k hk).2; omega⟩) hl)
              (by simp; omega) (by simp) (fun _ => rfl)
              (fun pre W' => AroundAt w A0 c0 l0 a1 W' ∧ Boxed W' wr.heap.size 2 (.int .i64 (a1 - l0.sum)) ∧ Boxed W' (W4.heap.size + 1) 40 (.slice A0 l0.length c0) ∧ (∃ v, Boxed W' W4.heap.size 40 v ∧ Kd.R (Kd.int .i64) 2 W' w.heap.size (fun k => wr.heap.size < k) v ((placed l0 a1).take pre.length)) ∧ W'.heap[D]? = some (.deferred (some []))) (fun _ _ => False)
              ?cI (fun _ => Bide.never) ⟨hA5, (hb84.alloc _).alloc _, bl, ⟨_, bo, Kd.R_below (Kd.R_below (row_of_own hown (fun k hk => by simp [Value.ownBlock] at hk; omega)) ((Below.refl _ _).alloc (Nat.le_refl _) _)) ((Below.refl _ _).alloc (Nat.le_refl _) _)⟩, blk_alloc (blk_alloc hK4 _) _⟩ ?a2 ?assign ?body ?done (fun _ _ _ _ h _ => h.elim)
            case cI => exact fun _ => (AroundAt.bide (by simp; omega)).and ((Bide.boxed _ _ _).and ((Bide.boxed _ _ _).and ((Bide.ex fun _ => (Bide.boxed _ _ _).and (Bide.row _ _ _ _ _ _)).and (Bide.deferred (by simp; have := (Array.getElem?_eq_some_iff.1 hK4).1; omega)))))
            case assign =>
              intro l x W K hK
              gi_wp2
              exact hK
            case body =>
              rintro l pre x rest W6 hx hzW ⟨hA6, hb86, hbl, ⟨v, hbo, hrow⟩, hD6⟩
              obtain ⟨hk, rfl⟩ := aheads_at hx
              clear hx
              have hs7 : Tame w.heap.size [W4.heap.size + 1] W6 W6.drew := (Tame.refl _ _ _).drew
              by_cases hlt : pre.length < l0.length
              · obtain ⟨k, hkk⟩ : ∃ k, pre.length = k := ⟨_, rfl⟩
                rw [hkk] at hlt hrow ⊢
                have hb1 := (Hbd.out k (by omega)).1
                have hb2 := (Hbd.out k (by omega)).2
                have hm1 : 0 ≤ (a1 - l0.sum) * (2 * (k : Int) + 1) := Int.mul_nonneg (by omega) (by omega)
                have hm2 : (a1 - l0.sum) * (2 * (k : Int) + 1) ≤ 1073741824 * 131073 := Int.mul_le_mul (by omega) (by omega) (by omega) (by omega)
                have hq1 : 0 ≤ (a1 - l0.sum) * (2 * (k : Int) + 1) / (2 * (l0.length : Int)) := Int.ediv_nonneg hm1 (by omega)
                have hq2 : (a1 - l0.sum) * (2 * (k : Int) + 1) / (2 * (l0.length : Int)) ≤ 1073741824 * 131073 := Int.le_trans (Int.ediv_le_self _ hm1) hm2
                have hn0 : ¬ (2 * (l0.length : Int) = 0) := by omega
                have e1 : IntKind.i64.wrap (2 * (k : Int)) = 2 * (k : Int) := IntWalk.i64_in _ (by omega)
                have e2 : IntKind.i64.wrap (2 * (k : Int) + 1) = 2 * (k : Int) + 1 := IntWalk.i64_in _ (by omega)
                have e3 : IntKind.i64.wrap ((a1 - l0.sum) * (2 * (k : Int) + 1)) = (a1 - l0.sum) * (2 * (k : Int) + 1) := IntWalk.i64_in _ (by omega)
                have e4 : IntKind.i64.wrap (2 * (l0.length : Int)) = 2 * (l0.length : Int) := IntWalk.i64_in _ (by omega)
                have e5 : IntKind.i64.wrap (((a1 - l0.sum) * (2 * (k : Int) + 1)).tdiv (2 * (l0.length : Int))) = (a1 - l0.sum) * (2 * (k : Int) + 1) / (2 * (l0.length : Int)) := by
                  rw [Int.tdiv_eq_ediv_of_nonneg hm1]; exact IntWalk.i64_in _ (by omega)
                have e6 : IntKind.i64.wrap (ps l0 k + (a1 - l0.sum) * (2 * (k : Int) + 1) / (2 * (l0.length : Int))) = ps l0 k + (a1 - l0.sum) * (2 * (k : Int) + 1) / (2 * (l0.length : Int)) := IntWalk.i64_in _ (by omega)
                have q2 := hA6.x2.cell
                clear Hbd
                gi_wp2
                refine round_append 12 [13, 14] (fun W => Boxed W W4.heap.size 40 v ∧ Boxed W wr.heap.size 2 (.int .i64 (a1 - l0.sum)) ∧ Boxed W w.heap.size 40 (.slice A0 l0.length c0)) (by kernel_rfl) (fun _ _ h => h) (fun _ _ _ h => h) (by rfl) (by kernel_rfl) ⟨hbo, hb86, hA6.x2⟩ ?_
                replace hA6 : AroundAt w A0 c0 l0 a1 W6.drew := hA6.drewN 1
                replace hb86 : Boxed W6.drew wr.heap.size 2 (.int .i64 (a1 - l0.sum)) := hb86
                replace hbl : Boxed W6.drew (W4.heap.size + 1) 40 (.slice A0 l0.length c0) := hbl
                replace hbo : Boxed W6.drew W4.heap.size 40 v := hbo
                replace hrow := Kd.R_drew hrow
                replace hD6 : W6.drew.heap[D]? = some (.deferred (some [])) := hD6
                clear q2
                generalize W6.drew = W7 at hs7 hA6 hb86 hbl hbo hrow hD6 ⊢
                have Hrow := Aside0.mk hrow
                clear hrow
                simp only [List.take_succ_cons, List.take_zero, List.drop_succ_cons, List.drop_zero]
                repeat (refine held_step (by rfl) ?_; apply Exists.intro; refine ⟨fun W hS => ?_, ?_⟩; (focus (obtain ⟨s1, s2, s3⟩ := hS; have q1 := s1.cell; have q2 := s2.cell; have q3 := s3.cell; clear s1 s2 s3; go_simp; first | rfl | exact ⟨rfl, rfl⟩)); simp only [Act.put, List.setIfInBounds_toArray, List.set_cons_zero, List.set_cons_succ])
                refine held_nil ?_
                clear e1 e2 e3 e4 e5 e6
                go_wp2
                refine ⟨⟨hbo.alloc _, hb86.alloc _, hA6.x2.alloc _⟩, ?_⟩
                have zs := hA6.below.size
                have zl : (((placed l0 a1).take k).length + 1) * 8 ≤ 140737488355328 := by rw [List.length_take]; omega
                have z6 := hb86.lt
                have z7 := hA6.size
                obtain ⟨ys, hys⟩ : ∃ ys, (placed l0 a1).take k ++ [ps l0 k + (a1 - l0.sum) * (2 * (k : Int) + 1) / (2 * (l0.length : Int))] = ys := ⟨_, rfl⟩
                have Hys := Aside0.mk hys
                clear hys
                go_wp2_with (first | (at_builtin; refine Kd.R_append (Kd.int .i64) (w0 := w) w.heap.size rfl (.tmp 65) (.tmp 77) 40 2 (.int .i64 0) 8 rfl Try.underlying40 info2 rfl (by decide) (by omega) v _ (ps l0 k + (a1 - l0.sum) * (2 * (k : Int) + 1) / (2 * (l0.length : Int))) [.int .i64 (ps l0 k + (a1 - l0.sum) * (2 * (k : Int) + 1) / (2 * (l0.length : Int)))] (fun k => wr.heap.size < k) (fun _ => False) rfl rfl rfl (fun _ hk => hk.elim) (fun k hk => Nat.lt_of_lt_of_le z6 hk) Hrow.out hA6.below zs zl ?_; intro v1 w1 hown1 hb1 hg1 _; rw [Hys.out] at hown1; obtain ⟨A1, c1, rfl⟩ := Kd.R_slice hown1; have bo1 : Boxed w1 W4.heap.size 40 v := blk_appended hbo Hrow.out hg1 (.inl (by decide)); have co1 := bo1.cell; have fo1 := bo1.frozen))
                have hT := hs7.appended Hrow.out hg1 (Nat.le_refl _) (Bs := [W4.heap.size + 1]) (fun B hB => .inr ⟨_, 40, by simp only [List.mem_singleton] at hB; subst hB; exact hbl, by decide⟩)
                have hT7 := (Tame.refl w.heap.size [W4.heap.size + 1] W7).appended Hrow.out hg1 (Nat.le_refl _) (fun B hB => .inr ⟨_, 40, by simp only [List.mem_singleton] at hB; subst hB; exact hbl, by decide⟩)
                have hA1 : AroundAt w A0 c0 l0 a1 w1 := ⟨blk_appended hA6.x2 Hrow.out hg1 (.inl (by decide)), blk_appended hA6.x3 Hrow.out hg1 (.inr (by omega)), hb1⟩
                refine ⟨hT.setCell (p := ⟨W4.heap.size, 0, none⟩) bo1 (by simp; omega) (by simp) _, hA1.set (by omega) _, blk_far (p := ⟨W4.heap.size, 0, none⟩) (blk_appended hb86 Hrow.out hg1 (.inr (by omega))) (by simp; omega) _,
                  blk_far (p := ⟨W4.heap.size, 0, none⟩) (blk_appended hbl Hrow.out hg1 (.inl (by decide))) (by simp) _, ⟨_, bo1.set _, ?_⟩, (hT7.setCell (p := ⟨W4.heap.size, 0, none⟩) bo1 (by simp; omega) (by simp) _).others hD6 rfl⟩
                have hR := Kd.R_set hown1 bo1 (by decide) 0 (.slice A1 ys.length c1)
                have hl2 : (pre ++ [((k : Int), ps l0 k)]).length = k + 1 := by rw [List.length_append, hkk]; rfl
                rw [hl2, placed_take l0 a1 hlt, Hys.out]
                exact hR
              · have q2 := hA6.x2.cell
                have hn : pre.length = l0.length := by omega
                rw [hn]
                gi_wp2
                refine ⟨Tame.refl _ _ _, hA6, hb86, hbl, ⟨v, hbo, ?_⟩, hD6⟩
                rw [List.length_append, hn, placed_all l0 a1 (by simp)]
                rw [hn, placed_all l0 a1 (by simp)] at hrow
                exact hrow
            case done =>
              rintro D2 W6 hD2 ⟨hA6, hb86, hbl, ⟨v, hbo, hrow⟩, hD6⟩ hK2
              have qo := hbo.cell
              have zD := (Array.getElem?_eq_some_iff.1 hK4).1
              simp only [World.size_alloc] at hD hD2
              rw [placed_all l0 a1 (by simp [aheads])] at hrow
              have zA := hA6.below.size
              have z5 := hA4.size
              have Hrow := Aside0.mk hrow
              clear hrow Hbd
              go_wp2_with fail
              refine leave_mark hK2 (leave_mark (blk_putObj _ hD6 (by omega)) (leave2 rfl ⟨v, rfl, ?_, below_putObj _ (below_putObj _ hA6.below (by omega)) (by omega)⟩))
              exact row_putObj _ (row_putObj _ (Kd.R_mono Hrow.out (fun _ _ => trivial)) hK2 rfl) (blk_putObj _ hD6 (by omega)) rfl
    | false =>
      have HB := Aside0.mk (hb.2 rfl)
      clear hb
      have hf := h
      unfold spread_Around.f at hf
      rw [if_neg (fun hc => HB.out ⟨by rw [← hgood, lim_ok hc.2.1]; exact beq_self_eq_true _, hc.2.2⟩)] at hf
      simp only [Option.some.injEq, Prod.mk.injEq] at hf
      obtain ⟨rfl, rfl⟩ := hf
      go_wp2_with fail
      exact leave2 rfl ⟨_, rfl, Kd.R_nil _ _ _ _ _, hA.below⟩

theorem spread_Around.calls (A0 : Option Addr) (c0 : Nat) (l0 : List Int) (a1 : Int) (r1 : List Int) (r2 : Int) (w : World) (hr0 : Kd.C (Kd.int .i64) w A0 l0.length l0) (hc0 : l0.length ≤ c0)
    (h : spread_Around.f l0 a1 = some (r1, r2)) :
    Calls Try.prog 21 #[.slice A0 l0.length c0, .int .i64 a1] w fun e w' => ∃ v0_ : Value, e = .returned (.tuple #[v0_, .int .i64 r2]) ∧ Kd.R (Kd.int .i64) 2 w' w.heap.size (fun _ => True) v0_ r1 ∧ Below w.heap.size w w' := by
  by_cases hl : l0.length ≤ 65536
  · exact around2 A0 c0 l0 a1 r1 r2 w hr0 hc0 hl h
  · unfold spread_Around.f at h
    rw [if_neg (fun hc => hl hc.1)] at h
    simp only [Option.some.injEq, Prod.mk.injEq] at h
    obtain ⟨rfl, rfl⟩ := h
    exact around1 A0 c0 l0 a1 w hr0 hc0 (by omega)
end

end Go.Proofs.Ytjinmcgcbbbbhaa.HSpread
