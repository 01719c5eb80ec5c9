-- Texts of this claim made one.
import Derived.RangeFuncNested
import Derived.RangeFuncBound
import Derived.RangeFuncCalls
import Derived.RangeFuncLeaves
import Derived.WalkKit
import Derived.OwnWalkIn
import Derived.TacticsInMore
import Derived.LoopNIn
import Derived.LoopIn
import Derived.StillTail
import Derived.Deep.Quiet
import Derived.Shelf.Abstract
import Derived.Test.YtkaiibipcnlaiaaMA
import Derived.Deep.Slices
import Derived.SizedLaws
import Derived.Laws.Rows
import Derived.Laws.Tables
import Derived.Deep.MidRow
import Derived.Laws.Entries
import Derived.ChangeKeysEq
import Derived.OrdersIn
import Derived.BigRegionIn
import Derived.Sort.LoopGhostIn
import Derived.Lib.Hide
import Derived.BigQuiet
/- General laws for the bodies of loops over iterators: a region that is walked in the plain way serves in a round, too. No condition of its own. -/
namespace Go.Proofs.Ytkaiibipcnlaiaa.Hand
open Go Go.RowKit

section
variable {P : Program} {ops : Array Oper} {Q : Exit → Act → World → Prop} {a : Act} {w : World} {l n : Nat}

/-- The fence of a round in the wide fence. -/
abbrev RF (l : Nat) : Fence := Fence.wide.inRound l

theorem rowsIn_round {row : String} {args : Array Value} {R : Value → World → Prop} (h : Rows P row args w R) : RowsIn (RF l) n P row args w R :=
  fun c cs _ => let ⟨v, w', r, s⟩ := h c cs; ⟨v, w', r, (stepsIn_wide (P := P)).2 s⟩

theorem uponIn_round {o : Oper} {K : Act → World → Prop} {r : Result Next} (h : o.upon P a K Q r) : o.uponIn (RF l) n P a K Q r := by
  cases r with
  | ok x w' =>
    cases x <;> simp only [Oper.upon, Oper.uponIn] at h ⊢ <;>
      first
        | exact h
        | exact ⟨fun hd => by simp [RF, Fence.wide] at hd, CallsIn.inRound l (callsIn_wide.2 h)⟩
        | exact ⟨fun hd => by simp [RF, Fence.wide] at hd, rowsIn_round h⟩
        | exact h.elim
  | halt x w' => cases x <;> simp only [Oper.upon, Oper.uponIn] at h ⊢ <;> exact h

/-- No operation of these is a 'defer'. -/
def noDefer (l : List Oper) : Bool := l.all fun o => match o.op with | .defer _ => false | _ => true

theorem noDefer_at {l : List Oper} {i : Nat} {o : Oper} (h : noDefer l = true) (hi : l[i]? = some o) : ∀ c, o.op ≠ .defer c := by
  intro c e
  have hm := List.mem_of_getElem? hi
  have := List.all_eq_true.1 h o hm
  simp [e] at this

theorem opIn_round {o : Oper} (hd : ∀ c, o.op ≠ .defer c) {K : Act → World → Prop} (h : o.wp P a w K Q) : o.wpIn (RF l) n P a w K Q := by
  refine ⟨fun _ _ => trivial, ?_⟩
  rw [Oper.semAt_eq _ _ _ hd]
  exact uponIn_round h

theorem listIn_round (hQ : ∀ a w, ¬ Q .outgrown a w) : ∀ (ls : List Oper) (a : Act) (w : World), noDefer ls = true → wpList P ops Q ls a w → wpListIn (RF l) n P ops Q ls a w
  | [], _, _, _, h => h
  | o :: ls, a, w, hd, h => by
    have hd' : (∀ c, o.op ≠ .defer c) ∧ noDefer ls = true := by
      refine ⟨noDefer_at (i := 0) hd rfl, ?_⟩
      simp only [noDefer, List.all_cons, Bool.and_eq_true] at hd ⊢
      exact hd.2
    unfold wpList at h
    unfold wpListIn
    split
    · rename_i hw
      rw [if_pos hw] at h
      rcases h with h | ⟨_, a', w', h⟩
      · exact Oper.wpIn_mono (fun a w => listIn_round hQ ls a w hd'.2) (opIn_round hd'.1 h)
      · exact absurd h (hQ a' w')
    · rename_i hw
      rw [if_neg hw] at h
      exact ⟨fun _ _ => trivial, listIn_round hQ ls _ _ hd'.2 h⟩

theorem opAtIn_round (hQ : ∀ a w, ¬ Q .outgrown a w) (hd : noDefer ops.toList = true) {i : Nat} {K : Act → World → Prop} (h : wpOp P ops Q i K a w) : wpOpIn (RF l) n P ops Q i K a w := by
  unfold wpOp at h
  unfold wpOpIn
  split
  · rename_i ho
    rw [ho] at h
    exact h
  · rename_i o ho
    rw [ho] at h
    simp only at h
    split
    · rename_i hw
      rw [if_pos hw] at h
      rcases h with h | ⟨_, a', w', h⟩
      · exact opIn_round (noDefer_at (i := i) hd (by simpa using ho)) h
      · exact absurd h (hQ a' w')
    · rename_i hw
      rw [if_neg hw] at h
      exact ⟨fun _ _ => trivial, h⟩

theorem anyIn_round (hQ : ∀ a w, ¬ Q .outgrown a w) (hd : noDefer ops.toList = true) : ∀ (fuel : Nat) (listed : Array Bool) (a : Act) (w : World), wpAny P .any ops Q fuel listed a w → wpAnyIn (RF l) n P .any ops Q fuel listed a w
  | 0, _, _, _, h => h
  | fuel + 1, _, _, _, h => ⟨h.1, fun i hi => wpOpIn_mono (fun a w => anyIn_round hQ hd fuel _ a w) (opAtIn_round hQ hd (h.2 i hi))⟩

/-- A region whose order is fixed, in a round: by its plain walk. -/
theorem round_region {id : Nat} {ls : List Oper} (hQ : ∀ a w, ¬ Q .outgrown a w) (hd : noDefer ls = true) (h : wpList P ls.toArray Q ls a w) : (Code.region id ls.toArray false).wpIn (RF l) n P Q a w :=
  wpIn_region_lit (listIn_round hQ ls a w hd h)

/-- A region that draws its order, in a round: by its plain walk in whatever order. -/
theorem round_any {id : Nat} {ls : List Oper} (hm : P.follows .mixedOrders = true) (hQ : ∀ a w, ¬ Q .outgrown a w) (hd : noDefer ls = true)
    (h : wpAny P .any ls.toArray Q ls.toArray.size (Array.replicate ls.toArray.size false) a { w with drawn := w.drawn + 1 }) : (Code.region id ls.toArray true).wpIn (RF l) n P Q a w :=
  wpIn_region_any hm (anyIn_round hQ (by simpa using hd) _ _ _ _ h)

/-- .. whose operations leave the world alone. -/
theorem round_quiet {id : Nat} {ls : List Oper} (hm : P.follows .mixedOrders = true) (hQ : ∀ a w, ¬ Q .outgrown a w) (hd : noDefer ls = true) (hB : Region.lexB .any ls.toArray = true)
    (h : wpQuiet P ls.toArray (fun w' => ∃ n, w' = w.drewN n) (fun a' => ∀ w', (∃ n, w' = w.drewN n) → Q .normal a' w') ls a) : (Code.region id ls.toArray true).wpIn (RF l) n P Q a w := by
  simp only [Region.lexB, Bool.and_eq_true] at hB
  refine round_any hm hQ hd (wpAny_of_quiet (C := fun w' => ∃ n, w' = w.drewN n) (Q := fun a' => ∀ w', (∃ n, w' = w.drewN n) → Q .normal a' w') (fun _ w' hw' h => h w' hw') _ _ _ _ ⟨1, rfl⟩ ?_)
  have := wpAnyQ_lex (C := fun w' => ∃ n, w' = w.drewN n) (md := .any) hB.1 ls 0 (Array.replicate ls.toArray.size false) a (by simp) (by simpa using hB.2) h
  simpa using this

/-- .. whose head only reads, and whose tail has one order. -/
theorem any_still_tail {ls : List Oper} (k : Nat) (hB : Region.lexTailB .any ls.toArray k = true)
    (h : wpStill P ls.toArray w (fun a' => wpList P ls.toArray Q (ls.drop k) a' w) (ls.take k) a) : wpAny P .any ls.toArray Q ls.toArray.size (Array.replicate ls.toArray.size false) a w := by
  simp only [Region.lexTailB, Bool.and_eq_true, decide_eq_true_eq] at hB
  obtain ⟨⟨⟨⟨hsel, hn⟩, hs⟩, hc⟩, hlex⟩ := hB
  have hn' : k < ls.length := by simpa using hn
  have htl : (ls.take k).length = k := by simp; omega
  have hdl : (ls.drop k).length = ls.toArray.size - k := by simp
  have inv0 : HeadInv .any ls.toArray k (Array.replicate ls.toArray.size false) :=
    ⟨by simp, fun j oj _ hl => (by rw [getD_replicate_false] at hl; cases hl), fun t _ ht => getD_in (by simpa using ht) (getD_replicate_false _ _)⟩
  have H := wpAnyL_lex (md := .any) (g := ls.toArray.size - k) hsel hs hc hn (ls.take k) 0 _ a (fun j hj => by
    have hj' : j < k := by rw [htl] at hj; exact hj
    simp [hj']) (by simpa using htl) inv0 (by rw [htl]; exact hlex) h
  have := wpAny_of_head (Q' := Q) (g := ls.toArray.size - k) (fun listed a' hL => by
    have := wpAny_of_seq (md := .any) (Q' := Q) (ls.drop k) k listed a' w (fun j => by simp [List.getElem?_drop]) (by rw [hdl]; exact hL.1) hL.2
    rwa [hdl] at this) _ _ _ H
  rw [htl, show k + (ls.toArray.size - k) = ls.toArray.size by omega] at this
  exact this

theorem round_still_tail {id : Nat} {ls : List Oper} (k : Nat) (hm : P.follows .mixedOrders = true) (hQ : ∀ a w, ¬ Q .outgrown a w) (hd : noDefer ls = true) (hB : Region.lexTailB .any ls.toArray k = true)
    (h : wpStill P ls.toArray w.drew (fun a' => wpList P ls.toArray Q (ls.drop k) a' w.drew) (ls.take k) a) : (Code.region id ls.toArray true).wpIn (RF l) n P Q a w :=
  round_any hm hQ hd (any_still_tail k hB h)
end

/-! ### Loops over iterators -/
section
variable {P : Program}

/-- A predicate of worlds that abides new blocks, and the turn of a block from B on that holds no cells. -/
def Bide (B : Nat) (p : World → Prop) : Prop :=
  ∀ W W' row, p W → W.grownBy W' row → (∀ r, row = some r → B ≤ r ∧ ∃ o : Obj, W.heap[r]? = some o ∧ o.isCells = false) → p W'

theorem Bide.and {B : Nat} {p q : World → Prop} (hp : Bide B p) (hq : Bide B q) : Bide B (fun W => p W ∧ q W) := fun W W' row h hg hr => ⟨hp W W' row h.1 hg hr, hq W W' row h.2 hg hr⟩
theorem Bide.ex {B : Nat} {ι : Sort _} {p : ι → World → Prop} (h : ∀ i, Bide B (p i)) : Bide B (fun W => ∃ i, p i W) := fun W W' row ⟨i, hi⟩ hg hr => ⟨i, h i W W' row hi hg hr⟩
theorem Bide.const {B : Nat} (p : Prop) : Bide B (fun _ => p) := fun _ _ _ h _ _ => h
theorem Bide.never {B : Nat} : Bide B (fun _ => False) := Bide.const False
theorem Bide.below {B n₀ : Nat} {w₀ : World} (hn : n₀ ≤ w₀.heap.size) (hB : n₀ ≤ B) : Bide B (fun W => Below n₀ w₀ W) :=
  fun _ _ _ hs hg hr => hs.grown hg (Nat.le_trans hn hs.size) (fun k e => Nat.le_trans hB (hr k e).1)
theorem Bide.boxed {B : Nat} (b : Nat) (t : TypeId) (v : Value) : Bide B (fun W => Boxed W b t v) := fun X Y row hs hg hr => hs.kept hg (fun e => by
  obtain ⟨_, o, ho, hc⟩ := hr b e.symm
  rw [show X.heap[b]? = _ from hs] at ho
  cases ho
  cases hc)
theorem Bide.blk {B : Nat} (b : Nat) (cs : Array Value) (t : TypeId) : Bide B (fun W => W.heap[b]? = some (.cells cs t (0, 0))) := fun X Y row hs hg hr => (hg.block b (Array.getElem?_eq_some_iff.1 hs).1 (fun e => by
  obtain ⟨_, o, ho, hc⟩ := hr b e.symm
  rw [hs] at ho
  cases ho
  cases hc)).trans hs

/-- What an iterator may count on between two rounds: what lies below n₀, and the blocks Bs, lie as they lay. -/
structure KeepI (n₀ : Nat) (Bs : List Nat) (W W' : World) : Prop where
  size : W.heap.size ≤ W'.heap.size
  block : ∀ k, k < W.heap.size → (k < n₀ ∨ k ∈ Bs) → W'.heap[k]? = W.heap[k]?
theorem KeepI.refl (n₀ : Nat) (Bs : List Nat) (W : World) : KeepI n₀ Bs W W := ⟨Nat.le_refl _, fun _ _ _ => rfl⟩
theorem KeepI.trans {n₀ : Nat} {Bs : List Nat} {A B C : World} (h : KeepI n₀ Bs A B) (k : KeepI n₀ Bs B C) : KeepI n₀ Bs A C :=
  ⟨Nat.le_trans h.size k.size, fun i hi hm => (k.block i (Nat.lt_of_lt_of_le hi h.size) hm).trans (h.block i hi hm)⟩
theorem KeepI.of_below {n₀ : Nat} {Bs : List Nat} {A B : World} (h : Below A.heap.size A B) : KeepI n₀ Bs A B := ⟨h.size, fun k hk _ => h.block k hk⟩
theorem KeepI.cell {n₀ : Nat} {Bs : List Nat} {A B : World} (h : KeepI n₀ Bs A B) {p : Addr} {v : Value} (hp : p.block < n₀ ∨ p.block ∈ Bs) (hc : A.cell? p = some v) : B.cell? p = some v :=
  (World.cell?_of_block (w := A) (h.block p.block (World.block_lt_of_cell? A p hc) hp)).trans hc

/-- What a round may do: new blocks; and stores into cells from n₀ on, but for the blocks Bs. -/
structure Tame (n₀ : Nat) (Bs : List Nat) (W W' : World) : Prop where
  size : W.heap.size ≤ W'.heap.size
  block : ∀ k, k < W.heap.size → (k < n₀ ∨ k ∈ Bs ∨ ∃ o : Obj, W.heap[k]? = some o ∧ o.isCells = false) → W'.heap[k]? = W.heap[k]?
theorem Tame.refl (n₀ : Nat) (Bs : List Nat) (W : World) : Tame n₀ Bs W W := ⟨Nat.le_refl _, fun _ _ _ => rfl⟩
theorem Tame.trans {n₀ : Nat} {Bs : List Nat} {A B C : World} (h : Tame n₀ Bs A B) (k : Tame n₀ Bs B C) : Tame n₀ Bs A C :=
  ⟨Nat.le_trans h.size k.size, fun i hi hm => by
    have e := h.block i hi hm
    rw [← e]
    exact k.block i (Nat.lt_of_lt_of_le hi h.size) (by rw [e]; exact hm)⟩
theorem Tame.of_below {n₀ : Nat} {Bs : List Nat} {A B C : World} (h : Tame n₀ Bs A B) (k : Below B.heap.size B C) : Tame n₀ Bs A C := h.trans ⟨k.size, fun i hi _ => k.block i hi⟩
theorem Tame.alloc {n₀ : Nat} {Bs : List Nat} {A B : World} (h : Tame n₀ Bs A B) (o : Obj) : Tame n₀ Bs A (B.alloc o) := h.of_below ((Below.refl _ _).alloc (Nat.le_refl _) _)
theorem Tame.drew {n₀ : Nat} {Bs : List Nat} {A B : World} (h : Tame n₀ Bs A B) : Tame n₀ Bs A B.drew := h.of_below (Below.refl _ _).drew
theorem Tame.drewN {n₀ : Nat} {Bs : List Nat} {A B : World} (h : Tame n₀ Bs A B) (m : Nat) : Tame n₀ Bs A (B.drewN m) := ⟨h.size, h.block⟩
/-- One row of cells is written (an append). -/
theorem Tame.grown {n₀ : Nat} {Bs : List Nat} {A B C : World} {row : Option Nat} (h : Tame n₀ Bs A B) (hg : B.grownBy C row)
    (hr : ∀ k, row = some k → n₀ ≤ k ∧ k ∉ Bs ∧ ∀ o : Obj, B.heap[k]? = some o → o.isCells = true) : Tame n₀ Bs A C := h.trans ⟨hg.size, fun i hi hm => hg.block i hi (fun e => by
    obtain ⟨h1, h2, h3⟩ := hr i e.symm
    rcases hm with hm | hm | ⟨o, ho, hc⟩
    · omega
    · exact h2 hm
    · rw [h3 o ho] at hc
      cases hc)⟩
theorem Tame.setCell {n₀ : Nat} {Bs : List Nat} {A B : World} (h : Tame n₀ Bs A B) {p : Addr} {cs : Array Value} {t : TypeId} (hb : B.heap[p.block]? = some (.cells cs t (0, 0))) (h1 : n₀ ≤ p.block) (h2 : p.block ∉ Bs) (u : Value) : Tame n₀ Bs A (B.setCell p u) :=
  h.trans ⟨by simp [World.setCell], fun i hi hm => Below.heap_setCell _ _ _ _ (fun e => by
    subst e
    rcases hm with hm | hm | ⟨o, ho, hc⟩
    · omega
    · exact h2 hm
    · rw [hb] at ho
      cases ho
      cases hc)⟩
theorem Tame.keep {n₀ : Nat} {Bs : List Nat} {A B : World} (h : Tame n₀ Bs A B) : KeepI n₀ Bs A B := ⟨h.size, fun k hk hm => h.block k hk (hm.elim .inl (fun m => .inr (.inl m)))⟩
theorem Tame.others {n₀ : Nat} {Bs : List Nat} {A B : World} (h : Tame n₀ Bs A B) {k : Nat} {o : Obj} (hk : A.heap[k]? = some o) (ho : o.isCells = false) : B.heap[k]? = some o :=
  (h.block k (Array.getElem?_eq_some_iff.1 hk).1 (.inr (.inr ⟨o, hk, ho⟩))).trans hk

/-- The iterator's contract: function gf with what it has captured hands the elements of xs, in order, to yield; it stops where yield says no. -/
def IterS {α : Type} (P : Program) (gf : Nat) (lb : Array Value) (encs : α → Array Value) (n₀ : Nat) (Bs : List Nat) (xs : List α) (w : World) : Prop :=
  ∀ (l : Nat) (J : List α → World → Prop) (Jx : World → Prop) (W : World), Below w.heap.size w W →
    (∀ pre W1 W2, J pre W1 → Below W1.heap.size W1 W2 → J pre W2) → (∀ W1 W2, Jx W1 → Below W1.heap.size W1 W2 → Jx W2) →
    (∀ pre x rest W1, xs = pre ++ x :: rest → J pre W1 → YieldAt Fence.wide 7 P l (encs x) W1 fun e W2 =>
      (e = .returned (.bool true) ∧ J (pre ++ [x]) W2 ∧ KeepI n₀ Bs W1 W2) ∨ (e = .returned (.bool false) ∧ Jx W2)) →
    J [] W →
    CallsIn Fence.wide 8 P gf (#[.func (.yield l) #[] #[]] ++ lb) W fun e W' => (∃ v, e = .returned v) ∧ (J xs W' ∨ Jx W')

/-- How a round may be left. -/
def roundQ {α : Type} (n₀ : Nat) (Bs : List Nat) (I : List α → World → Prop) (Ix : Code → World → Prop) (s : List α) (W : World) : Exit → Act → World → Prop
  | .normal, _, W' => Tame n₀ Bs W W' ∧ I s W'
  | .ret, _, W' => Tame n₀ Bs W W' ∧ Ix .ret W'
  | .exit id, _, W' => Tame n₀ Bs W W' ∧ Ix (.exit id) W'
  | .goto t, _, W' => Tame n₀ Bs W W' ∧ Ix (.goto t) W'
  | .panic _, _, _ => False
  | .outgrown, _, _ => False

theorem Bide.putObj {B : Nat} {p : World → Prop} (h : Bide B p) {W : World} {l : Nat} {o : Obj} (o' : Obj) (hs : p W) (hB : B ≤ l) (hl : W.heap[l]? = some o) (ho : o.isCells = false) : p (W.putObj l o') :=
  h W _ (some l) hs (grownBy_putObj' W l o') (fun r e => by cases e; exact ⟨hB, o, hl, ho⟩)
theorem Bide.of_below {B : Nat} {p : World → Prop} (h : Bide B p) {W W' : World} (hs : p W) (hb : Below W.heap.size W W') : p W' :=
  h W W' none hs ⟨hb.os, hb.tape, hb.output, hb.size, fun i hi _ => hb.block i hi⟩ (fun r e => by cases e)
theorem keepI_putObj {n₀ : Nat} {Bs : List Nat} {W : World} {l : Nat} (o : Obj) (h1 : n₀ ≤ l) (h2 : ∀ B ∈ Bs, B < l) : KeepI n₀ Bs W (W.putObj l o) :=
  ⟨by simp, fun k _ hm => World.putObj_heap_other (fun e => by
    subst e
    rcases hm with hm | hm
    · omega
    · have := h2 _ hm
      omega)⟩

/-- 'for .. := range it': by the iterator's contract and the walk of one round. -/
theorem wp_range {α : Type} {g : Operand} {ps : Array Tmp} {assign body : Code} {Q : Exit → Act → World → Prop} {a : Act} {w : World}
    {gf : Nat} {lb : Array Value} {encs : α → Array Value} {xs : List α} {n₀ : Nat} {Bs : List Nat}
    (hg : a.eval g = .func (.func gf) #[] lb) (eg : ∀ args w, (callFunc gf args).run P w = .ok (.enter gf args) w)
    (hit : IterS P gf lb encs n₀ Bs xs w) (hn : n₀ ≤ w.heap.size) (hBs : ∀ B ∈ Bs, B < w.heap.size) (hps : ∀ x, (encs x).size = ps.size)
    (I : List α → World → Prop) (Ix : Code → World → Prop) (hI : ∀ s, Bide w.heap.size (I s)) (hIx : ∀ c, Bide w.heap.size (Ix c)) (h0 : I [] w) (a₁ : α → Act)
    (hassign : ∀ (l : Nat) (x : α) (W : World) (K : Act → World → Prop), K (a₁ x) W →
      assign.wpIn (RF l) 7 P (Exit.then K (fun _ _ _ => False)) { tmps := (ps.zip (encs x)).foldl (fun t (p, v) => t.setIfInBounds p v) a.tmps, defers := [] } W)
    (hbody : ∀ (l : Nat) (pre : List α) (x : α) (rest : List α) (W : World), xs = pre ++ x :: rest → w.heap.size ≤ W.heap.size → I pre W → body.wpIn (RF l) 7 P (roundQ n₀ Bs I Ix (pre ++ [x]) W) (a₁ x) W)
    (hdone : ∀ (D : Nat) (W : World), w.heap.size ≤ D → I xs W → W.heap[D]? = some (.deferred (some [])) → Q .normal { a with defers := { target := .collected D, args := #[] } :: a.defers } W)
    (hstop : ∀ (D : Nat) (c : Code) (W : World), w.heap.size ≤ D → Ix c W → W.heap[D]? = some (.deferred (some [])) → c.wp P Q { a with defers := { target := .collected D, args := #[] } :: a.defers } W) :
    (Code.rangeFunc g ps assign body).wp P Q a w := by
  refine (wpIn_wide (n := 9)).1 (wpIn_rangeFunc ?_)
  intro fn hfn
  obtain ⟨rec, hrec⟩ : ∃ rec : LoopState → Option Code → Loop, rec = fun st pe => { state := st, pending := pe, fn, tmps := a.tmps, params := ps, assign, body, defers := w.heap.size } := ⟨_, rfl⟩
  obtain ⟨W1, hW1⟩ : ∃ W1, (w.alloc (.deferred (some []))).alloc (.loop (rec .ready none)) = W1 := ⟨_, rfl⟩
  have hL1 : W1.heap[w.heap.size + 1]? = some (.loop (rec .ready none)) := by
    rw [← hW1]
    have := World.alloc_heap_new (w.alloc (.deferred (some []))) (.loop (rec .ready none))
    rwa [World.size_alloc] at this
  have hK1 : W1.heap[w.heap.size]? = some (.deferred (some [])) := by
    rw [← hW1]
    exact (Below.heap_alloc _ _ _ (by simp)).trans (World.alloc_heap_new w _)
  have hb1 : Below w.heap.size w W1 := by
    rw [← hW1]
    exact ((Below.refl _ w).alloc (Nat.le_refl _) _).alloc (by simp) _
  have hI1 : I [] W1 := (hI []).of_below h0 hb1
  refine ⟨w.heap.size + 1, [{ target := .collected w.heap.size, args := #[] }], W1, { target := .fn (.func gf) lb, args := #[.func (.yield (w.heap.size + 1)) #[] #[]] }, W1, gf,
    #[.func (.yield (w.heap.size + 1)) #[] #[]] ++ lb, W1, ?_, ?_, ?_, ?_, fun h => by simp [Fence.wide] at h, ?_⟩
  · rw [← hW1, hrec]
    exact run_enterLoop_outer _ _ _ _ _
  · simp only [resolve, hg]
    simp [go_sem]
  · intro f' _
    trivial
  · simp [invoke, go_sem, eg]
  · refine (hit (w.heap.size + 1)
      (fun pre W => w.heap.size ≤ W.heap.size ∧ I pre W ∧ W.heap[w.heap.size + 1]? = some (.loop (rec .ready none)) ∧ W.heap[w.heap.size]? = some (.deferred (some [])))
      (fun W => ∃ c, Ix c W ∧ W.heap[w.heap.size + 1]? = some (.loop (rec .done (some c))) ∧ W.heap[w.heap.size]? = some (.deferred (some [])))
      W1 hb1 ?_ ?_ ?_ ⟨hb1.size, hI1, hL1, hK1⟩).mono ?_
    · rintro pre A B ⟨hz, hi, hl, hk⟩ hb
      exact ⟨Nat.le_trans hz hb.size, (hI pre).of_below hi hb, (hb.block _ (Array.getElem?_eq_some_iff.1 hl).1).trans hl, (hb.block _ (Array.getElem?_eq_some_iff.1 hk).1).trans hk⟩
    · rintro A B ⟨c, hi, hl, hk⟩ hb
      exact ⟨c, (hIx c).of_below hi hb, (hb.block _ (Array.getElem?_eq_some_iff.1 hl).1).trans hl, (hb.block _ (Array.getElem?_eq_some_iff.1 hk).1).trans hk⟩
    · rintro pre x rest W hx ⟨hz, hi, hl, hk⟩
      have hlt : w.heap.size + 1 < W.heap.size := (Array.getElem?_eq_some_iff.1 hl).1
      have hy := run_yield (P := P) (args := encs x) hl (by rw [hrec]; exact hps x)
      rw [hrec] at hy
      refine ⟨fn, _, assign, body, hy, roundIn_of_wpIn hfn (hassign _ x W _ ⟨_, run_beginRound hl (by rw [hrec]), ?_⟩)⟩
      have hl2 : (W.putObj (w.heap.size + 1) (.loop { rec .ready none with state := .busy })).heap[w.heap.size + 1]? = some (.loop { rec .ready none with state := .busy }) := World.putObj_heap_same hlt
      have hk2 : (W.putObj (w.heap.size + 1) (.loop { rec .ready none with state := .busy })).heap[w.heap.size]? = some (.deferred (some [])) := (World.putObj_heap_other (by omega)).trans hk
      have hB1 : ∀ B ∈ Bs, B < w.heap.size + 1 := fun B hB => Nat.lt_succ_of_lt (hBs B hB)
      have hw2 : KeepI n₀ Bs W (W.putObj (w.heap.size + 1) (.loop { rec .ready none with state := .busy })) := keepI_putObj _ (by omega) hB1
      have hi2 : I pre (W.putObj (w.heap.size + 1) (.loop { rec .ready none with state := .busy })) := (hI pre).putObj _ hi (by omega) hl rfl
      refine wpIn_mono (hbody _ pre x rest _ hx (by simpa using hz) hi2) ?_
      have fin : ∀ (jump : Option Code) (W3 : World), Tame n₀ Bs (W.putObj (w.heap.size + 1) (.loop { rec .ready none with state := .busy })) W3 →
          (Instr.endRound (w.heap.size + 1) jump).run P W3 = .ok (.bool jump.isNone) (W3.putObj (w.heap.size + 1) (.loop (rec (if jump.isNone then .ready else .done) jump))) ∧
          W3.heap[w.heap.size + 1]? = some (.loop { rec .ready none with state := .busy }) ∧
          (W3.putObj (w.heap.size + 1) (.loop (rec (if jump.isNone then .ready else .done) jump))).heap[w.heap.size + 1]? = some (.loop (rec (if jump.isNone then .ready else .done) jump)) ∧
          (W3.putObj (w.heap.size + 1) (.loop (rec (if jump.isNone then .ready else .done) jump))).heap[w.heap.size]? = some (.deferred (some [])) := fun jump W3 hk3 => by
        have hl3 := hk3.others hl2 rfl
        have := run_endRound (P := P) jump hl3
        rw [hrec] at this ⊢
        exact ⟨this, by rw [hrec] at hl3; exact hl3, World.putObj_heap_same (Array.getElem?_eq_some_iff.1 hl3).1, (World.putObj_heap_other (by omega)).trans (hk3.others hk2 rfl)⟩
      rintro e a3 W3 hp
      cases e with
      | normal =>
        obtain ⟨hk3, hi3⟩ := hp
        obtain ⟨hr, hl3, hl4, hk4⟩ := fin none W3 hk3
        have hs3 := hk3.size
        simp only [World.putObj_size] at hs3
        exact ⟨_, _, hr, .inl ⟨rfl, ⟨by simp only [World.putObj_size]; omega, (hI _).putObj _ hi3 (by omega) hl3 rfl, hl4, hk4⟩, (hw2.trans hk3.keep).trans (keepI_putObj _ (by omega) hB1)⟩⟩
      | ret =>
        obtain ⟨hk3, hi3⟩ := hp
        obtain ⟨hr, hl3, hl4, hk4⟩ := fin (some .ret) W3 hk3
        exact ⟨_, _, hr, .inr ⟨rfl, .ret, (hIx _).putObj _ hi3 (by omega) hl3 rfl, hl4, hk4⟩⟩
      | exit id =>
        obtain ⟨hk3, hi3⟩ := hp
        obtain ⟨hr, hl3, hl4, hk4⟩ := fin (some (.exit id)) W3 hk3
        exact ⟨_, _, hr, .inr ⟨rfl, .exit id, (hIx _).putObj _ hi3 (by omega) hl3 rfl, hl4, hk4⟩⟩
      | goto t =>
        obtain ⟨hk3, hi3⟩ := hp
        obtain ⟨hr, hl3, hl4, hk4⟩ := fin (some (.goto t)) W3 hk3
        exact ⟨_, _, hr, .inr ⟨rfl, .goto t, (hIx _).putObj _ hi3 (by omega) hl3 rfl, hl4, hk4⟩⟩
      | panic ch => exact hp.elim
      | outgrown => exact hp.elim
    · rintro e W2 ⟨⟨v, rfl⟩, (⟨_, hi, hl, hk⟩ | ⟨c, hi, hl, hk⟩)⟩
      · exact ⟨none, _, by have := run_endLoop (P := P) hl (by rw [hrec]; simp); rw [hrec] at this; exact this, hdone _ _ (Nat.le_refl _) ((hI _).putObj _ hi (by omega) hl rfl) ((World.putObj_heap_other (by omega)).trans hk)⟩
      · exact ⟨some c, _, by have := run_endLoop (P := P) hl (by rw [hrec]; simp); rw [hrec] at this; exact this, wpIn_wide.2 (hstop _ c _ (Nat.le_refl _) ((hIx c).putObj _ hi (by omega) hl rfl) ((World.putObj_heap_other (by omega)).trans hk))⟩
end

/-- The first n of what a function tells, and how they part. -/
theorem map_range_split {α : Type} (f : Nat → α) {k n : Nat} (h : k < n) : ∃ rest, (List.range n).map f = (List.range k).map f ++ f k :: rest := by
  obtain ⟨d, rfl⟩ : ∃ d, n = k + 1 + d := ⟨n - (k + 1), by omega⟩
  rw [List.range_add, List.map_append, List.range_succ, List.map_append]
  exact ⟨((List.range d).map (k + 1 + ·)).map f, by simp only [List.map_cons, List.map_nil, List.append_assoc, List.cons_append, List.nil_append]⟩
end Go.Proofs.Ytkaiibipcnlaiaa.Hand
/- General laws on rows that a call owns, behind loops over iterators, and on how a function that held such loops returns. No condition of its own. -/
namespace Go.Proofs.Ytkaiibipcnlaiaa.Hand
open Go Go.RowKit Go.Proofs.YtkaiibipcnlaiaaW.PrintWords Go.Proofs.YtkaiibipcnlaiaaW.PrintLast

theorem Bide.row {α : Type} {B : Nat} (d : Kd α) (e base : Nat) (ok : Nat → Prop) (v : Value) (xs : List α) : Bide B (fun W => d.R e W base ok v xs) := fun W W' row hs hg hr => by
  refine Kd.R_mono (Kd.R_move (Kd.R_bound hs) (fun k hk => hg.block k hk.2.2.1 (fun e' => ?_))) (fun k hk => hk.1)
  obtain ⟨_, o, ho, hc⟩ := hr k e'.symm
  obtain ⟨_, _, _, q, _, cells, hc'⟩ := hk
  rw [hc'] at ho
  cases ho
  cases hc

/-- A row of numbers, bools or texts that has just been made, without elements. -/
theorem row_of_own {α : Type} {d : Kd α} {e base : Nat} {ok : Nat → Prop} {w : World} {v : Value} (h : w.ownsRow base e d.sz v 0 []) (hok : ∀ k, v.ownBlock = some k → ok k) : d.R e w base ok v [] := ⟨hok, [], h, Reps.none _ _⟩
/-- A row of the call's own grows, or another block stays what it was. -/
theorem Tame.appended {α : Type} {n₀ : Nat} {Bs : List Nat} {A W W1 : World} {d : Kd α} {e base : Nat} {ok : Nat → Prop} {v : Value} {xs : List α} (h : Tame n₀ Bs A W) (hr : d.R e W base ok v xs) (hg : W.grownBy W1 v.ownBlock)
    (hn : n₀ ≤ base) (hB : ∀ B ∈ Bs, ¬ ok B ∨ ∃ cs t, W.heap[B]? = some (.cells cs t (0, 0)) ∧ e ≠ t) : Tame n₀ Bs A W1 := h.grown hg fun k hk => by
  obtain ⟨inner, ho⟩ := Kd.R_own hr
  refine ⟨Nat.le_trans hn (own_base ho k hk), fun hm => ?_, fun o hko => ?_⟩
  · rcases hB k hm with h1 | ⟨cs, t, h1, h2⟩
    · exact h1 (hr.1 k hk)
    · exact Kd.R_ne hr h1 (by exact h2) hk.symm
  · obtain ⟨cells, hc⟩ := own_typed ho k hk
    rw [hc] at hko
    cases hko
    rfl
/-- A block of cells that the row isn't. -/
theorem blk_appended {α : Type} {W W1 : World} {d : Kd α} {e base : Nat} {ok : Nat → Prop} {v : Value} {xs : List α} {b : Nat} {cs : Array Value} {t : TypeId} (hb : W.heap[b]? = some (.cells cs t (0, 0))) (hr : d.R e W base ok v xs) (hg : W.grownBy W1 v.ownBlock) (hne : e ≠ t ∨ ¬ ok b) :
    W1.heap[b]? = some (.cells cs t (0, 0)) := blk_grown hb hg (fun hk => by
  rcases hne with h1 | h1
  · exact Kd.R_ne hr hb h1 hk
  · exact h1 (hr.1 b hk.symm))
theorem row_putObj {α : Type} {d : Kd α} {e base : Nat} {ok : Nat → Prop} {v : Value} {xs : List α} {w : World} {D : Nat} {o : Obj} (o' : Obj) (h : d.R e w base ok v xs) (hD : w.heap[D]? = some o) (ho : o.isCells = false) : d.R e (w.putObj D o') base ok v xs :=
  (Bide.row (B := 0) d e base ok v xs).putObj o' h (Nat.zero_le _) hD ho
theorem below_putObj {n₀ : Nat} {w0 w : World} {D : Nat} (o : Obj) (h : Below n₀ w0 w) (hD : n₀ ≤ D) : Below n₀ w0 (w.putObj D o) :=
  h.trans ⟨rfl, rfl, rfl, by simp, fun k hk => World.putObj_heap_other (by omega)⟩
theorem blk_putObj {w : World} {b D : Nat} {o : Obj} (o' : Obj) (h : w.heap[b]? = some o) (hne : b ≠ D) : (w.putObj D o').heap[b]? = some o := (World.putObj_heap_other hne).trans h

theorem Bide.deferred {B D : Nat} (hD : D < B) : Bide B (fun W => W.heap[D]? = some (.deferred (some []))) := fun W W' row hs hg hr =>
  (hg.block D (Array.getElem?_eq_some_iff.1 hs).1 (fun e => by have := (hr D e.symm).1; omega)).trans hs

section
variable {F : Fence} {n : Nat} {P : Program} {fn : Func} {tmps : Array Value} {R : Ending → World → Prop} {w : World}
theorem leave1 {t : Tmp} (h : fn.results = #[.tmp t]) (hR : R (.returned (tmps.getD t undef)) w) : LeavesInM F n P fn tmps R [] .returning w := ⟨_, results_tmp h _ _ _, hR⟩
theorem leave2 {t u : Tmp} (h : fn.results = #[.tmp t, .tmp u]) (hR : R (.returned (.tuple #[tmps.getD t undef, tmps.getD u undef])) w) : LeavesInM F n P fn tmps R [] .returning w := ⟨_, results_tmp2 h _ _ _, hR⟩
theorem leave3 {t u v : Tmp} (h : fn.results = #[.tmp t, .tmp u, .tmp v]) (hR : R (.returned (.tuple #[tmps.getD t undef, tmps.getD u undef, tmps.getD v undef])) w) : LeavesInM F n P fn tmps R [] .returning w := ⟨_, results_tmp3 h _ _ _, hR⟩
theorem leave_mark {D : Nat} {ds : List Deferred} (hK : w.heap[D]? = some (.deferred (some []))) (h : LeavesInM F n P fn tmps R ds .returning (w.putObj D (.deferred none))) :
    LeavesInM F n P fn tmps R ({ target := .collected D, args := #[] } :: ds) .returning w := ⟨by simp, .inl ⟨_, _, rfl, run_takeDeferred hK, h⟩⟩
end

/-- What is read of a slice lay in the world. -/
theorem block_of_C {α : Type} {d : Kd α} {w : World} {A : Option Addr} {n : Nat} {xs : List α} (h : d.C w A n xs) (z : α) (hz : 0 < d.sz) : ∀ ad, A = some ad → 0 < n → ad.block < w.heap.size := by
  intro ad e hn
  obtain ⟨ad', c, e', hcl, hK, hc⟩ := Kd.C_get h z 0 (by omega) (by omega)
  obtain rfl : ad' = ad := by rw [e] at e'; cases e'; rfl
  have hl := d.K_len hK
  have h0 := hc 0 (c[0]'(by omega)) (by simp)
  have := World.block_lt_of_cell? w _ h0
  rwa [add_block] at this

/-! ### A region that draws its order: reads, then one operation that lays memory (what is to be appended), then an append and a store -/
section
variable {P : Program} {ops : Array Oper} {Q : Exit → Act → World → Prop} {S : World → Prop} {ds : List Nat}

/-- Each operation yields one value in every world of the class S, and leaves the world alone. -/
def wpHeld (P : Program) (ops : Array Oper) (S : World → Prop) (K : Act → Prop) : List Oper → Act → Prop
  | [], a => K a
  | o :: r, a => if Region.wanted o (yielded ops a.tmps) then ∃ v, (∀ w, S w → (execOp a.eval o).run P w = .ok (.value v) w) ∧ wpHeld P ops S K r (a.put o.dst v) else wpHeld P ops S K r (a.put o.dst undef)

def headB (ops : Array Oper) (ds : List Nat) : Nat → Nat → Array Bool → Bool
  | 0, k, l => decide (Region.ready .any ops l = [k])
  | n + 1, i, l => Region.free .any ops l i && (Region.ready .any ops l).contains i && Region.closedB .any ops l && Region.lastB .any ops l ds i && headB ops ds n (i + 1) (l.setIfInBounds i true)
def restB (ops : Array Oper) (ds : List Nat) : Nat → Nat → Array Bool → Bool
  | 0, _, l => (Region.ready .any ops l).isEmpty
  | n + 1, i, l => decide (Region.ready .any ops l = [i]) && ds.contains i && restB ops ds n (i + 1) (l.setIfInBounds i true)
/-- The first k operations only read; the next one lays memory; those of ds follow, in one order. -/
def appendB (ops : Array Oper) (ds : List Nat) (k : Nat) : Bool :=
  Region.noSelect ops && decide (k < ops.size) && !ds.contains k && headB ops ds k 0 (Array.replicate ops.size false) &&
    restB ops ds (ops.size - (k + 1)) (k + 1) (((List.range (k + 1)).foldl (fun l i => l.setIfInBounds i true)) (Array.replicate ops.size false))

/-- How the middle one may end. -/
def midQ (P : Program) (ops : Array Oper) (Q : Exit → Act → World → Prop) (S : World → Prop) (rest : List Oper) : Exit → Act → World → Prop
  | .normal, a, w => S w ∧ wpList P ops Q rest a w
  | .panic c, a, w => Q (.panic c) a w
  | _, _, _ => False

theorem last_of_list (hQ : ∀ a w, ¬ Q .outgrown a w) : ∀ (l : List Oper) (i : Nat) (listed : Array Bool) (a : Act) (w : World), (∀ j, l[j]? = ops[i + j]?) → restB ops ds l.length i listed = true → wpList P ops Q l a w →
    wpAnyLast P .any ops Q S ds l.length listed a w
  | [], _, _, _, _, _, hB, h => ⟨by simpa [restB] using hB, h⟩
  | o :: l, i, listed, a, w, hl, hB, h => by
    have h0 : ops[i]? = some o := by simpa using (hl 0).symm
    simp only [List.length_cons, restB, Bool.and_eq_true, decide_eq_true_eq] at hB
    obtain ⟨⟨h1, h2⟩, h3⟩ := hB
    have hm : i ∈ ds := by simpa using h2
    refine wpAnyLast_ready h1 (by simp) (AllReadyL.cons_last h0 hm (fun K hK => ?_) AllReadyL.nil)
    have hK' : ∀ a w, wpList P ops Q l a w → K a w := fun a w h' => hK.out a w (last_of_list hQ l (i + 1) _ a w (fun j => by have := hl (j + 1); simpa [Nat.add_assoc, Nat.add_comm 1 j] using this) h3 h')
    unfold wpList at h
    split
    · rename_i hw
      rw [if_pos hw] at h
      rcases h with h | ⟨_, a', w', h⟩
      · exact Oper.wp_mono hK' h
      · exact absurd h (hQ a' w')
    · rename_i hw
      rw [if_neg hw] at h
      exact hK' _ _ h

theorem head_of_held (hs : Region.noSelect ops = true) (hQp : ∀ c a w, ¬ Q (.panic c) a w) {w : World} (hS : S w) (fuel k : Nat) (L : Act → Prop) :
    ∀ (l : List Oper) (i : Nat) (listed : Array Bool) (a : Act), (∀ j, j < l.length → l[j]? = ops[i + j]?) → i + l.length = k → headB ops ds l.length i listed = true →
      (∀ listed' a', Region.ready .any ops listed' = [k] → (List.range' i l.length).foldl (fun l i => l.setIfInBounds i true) listed = listed' → L a' → wpAnyLast P .any ops Q S ds fuel listed' a' w) →
      wpHeld P ops S L l a → wpAnyLast P .any ops Q S ds (l.length + fuel) listed a w
  | [], i, listed, a, _, hk, hB, hL, h => by
    have : i = k := by simpa using hk
    subst this
    simp only [List.length_nil, headB, decide_eq_true_eq] at hB
    simpa using hL listed a hB (by simp) h
  | o :: l, i, listed, a, hl, hk, hB, hL, h => by
    have h0 : ops[i]? = some o := by simpa using (hl 0 (by simp)).symm
    simp only [List.length_cons, headB, Bool.and_eq_true] at hB
    obtain ⟨⟨⟨⟨h1, h2⟩, h3⟩, h4⟩, h5⟩ := hB
    rw [show (o :: l).length + fuel = (l.length + fuel) + 1 by simp only [List.length_cons]; omega]
    have ih := fun a' => head_of_held hs hQp hS fuel k L l (i + 1) (listed.setIfInBounds i true) a' (fun j hj => by have := hl (j + 1) (by simp; omega); simpa [Nat.add_assoc, Nat.add_comm 1 j] using this) (by simp only [List.length_cons] at hk; omega) h5
      (fun listed' a' hr hf => hL listed' a' hr (by rw [List.length_cons, List.range'_succ, List.foldl_cons]; exact hf))
    unfold wpHeld at h
    by_cases hw : Region.wanted o (yielded ops a.tmps) = true
    · rw [if_pos hw] at h
      obtain ⟨v, hv, h⟩ := h
      exact wpAnyLast_take h0 hs h1 h2 h3 h4 (fun c a w hp => absurd hp (hQp _ _ _)) (.inl ⟨hw, hv⟩) hS (ih _ h)
    · rw [if_neg hw] at h
      exact wpAnyLast_take h0 hs h1 h2 h3 h4 (fun c a w hp => absurd hp (hQp _ _ _)) (.inr ⟨by simpa using hw, rfl⟩) hS (ih _ h)

theorem any_append {ls : List Oper} {a : Act} {w : World} (k : Nat) (ds : List Nat) (S : World → Prop) (hQ : ∀ a w, ¬ Q .outgrown a w) (hQp : ∀ c a w, ¬ Q (.panic c) a w) (hB : appendB ls.toArray ds k = true) (hS : S w)
    (h : wpHeld P ls.toArray S (fun a1 => wpList P ls.toArray (midQ P ls.toArray Q S (ls.drop (k + 1))) ((ls.drop k).take 1) a1 w) (ls.take k) a) :
    wpAny P .any ls.toArray Q ls.toArray.size (Array.replicate ls.toArray.size false) a w := by
  simp only [appendB, Bool.and_eq_true, decide_eq_true_eq, Bool.not_eq_true'] at hB
  obtain ⟨⟨⟨⟨hsel, hn⟩, hkd⟩, hh⟩, hr⟩ := hB
  have hn' : k < ls.length := by simpa using hn
  have htl : (ls.take k).length = k := by simp; omega
  have hfu : ls.toArray.size = (ls.take k).length + ((ls.drop (k + 1)).length + 1) := by rw [htl]; simp; omega
  refine wpAny_of_last (S := S) (ds := ds) _ _ _ _ ?_
  have hrep : (Array.replicate ls.toArray.size false) = (Array.replicate ls.toArray.size false) := rfl
  generalize hl0 : (Array.replicate ls.toArray.size false) = l0 at hh hr ⊢
  rw [hfu]
  refine head_of_held hsel hQp hS _ k _ (ls.take k) 0 l0 a (fun j hj => ?_) (by simpa using htl) (by rw [htl]; exact hh) ?_ h
  · have hj' : j < k := by rw [htl] at hj; exact hj
    simp [hj']
  · intro listed' a1 hrd hf hmid
    rw [htl, ← List.range_eq_range'] at hf
    have hd : ls.drop k = ls[k] :: ls.drop (k + 1) := List.drop_eq_getElem_cons hn'
    have hdk : (ls.drop k).take 1 = [ls[k]] := by rw [hd]; rfl
    rw [hdk] at hmid
    have h0 : ls.toArray[k]? = some ls[k] := by simp [hn']
    have hkm : k ∉ ds := by simpa using hkd
    rw [List.range_succ, List.foldl_append, hf] at hr
    have hdl : (ls.drop (k + 1)).length = ls.toArray.size - (k + 1) := by simp
    refine wpAnyLast_ready hrd (by simp) (AllReadyL.cons h0 hkm (fun K hK => ?_) AllReadyL.nil)
    have hK' : ∀ a w, (wpList P ls.toArray (midQ P ls.toArray Q S (ls.drop (k + 1))) [] a w) → K a w := fun a w h' =>
      hK.out a w h'.1 (fun _ => last_of_list hQ (ls.drop (k + 1)) (k + 1) _ a w (fun j => by simp [List.getElem?_drop]) (by rw [hdl]; exact hr) h'.2)
    unfold wpList at hmid
    split
    · rename_i hw
      rw [if_pos hw] at hmid
      rcases hmid with hm | ⟨_, a', w', hm⟩
      · have hm2 := Oper.wp_mono hK' hm
        unfold Oper.wp at hm2 ⊢
        generalize (execOp a1.eval ls[k]).run P w = r at hm2 ⊢
        cases r with
        | ok x w' =>
          cases x <;> simp only [Oper.upon] at hm2 ⊢ <;> first | exact hm2 | exact hm2.mono (fun e w'' he => by cases e <;> first | exact he | (obtain ⟨a', w', h'⟩ := he; exact h'.elim)) | exact hm2.elim
        | halt x w' => cases x <;> simp only [Oper.upon] at hm2 ⊢ <;> exact hm2
      · exact hm.elim
    · rename_i hw
      rw [if_neg hw] at hmid
      exact hK' _ _ hmid

theorem round_append {ls : List Oper} {a : Act} {w : World} {l n id : Nat} (k : Nat) (ds : List Nat) (S : World → Prop) (hm : P.follows .mixedOrders = true) (hQ : ∀ a w, ¬ Q .outgrown a w) (hQp : ∀ c a w, ¬ Q (.panic c) a w) (hd : noDefer ls = true) (hB : appendB ls.toArray ds k = true) (hS : S w.drew)
    (h : wpHeld P ls.toArray S (fun a1 => wpList P ls.toArray (midQ P ls.toArray Q S (ls.drop (k + 1))) ((ls.drop k).take 1) a1 w.drew) (ls.take k) a) : (Code.region id ls.toArray true).wpIn (RF l) n P Q a w :=
  round_any hm hQ hd (any_append k ds S hQ hQp hB hS h)

theorem held_nil {K : Act → Prop} {a : Act} (h : K a) : wpHeld P ops S K [] a := h
theorem held_step {K : Act → Prop} {a : Act} {o : Oper} {r : List Oper} (hw : Region.wanted o (yielded ops a.tmps) = true) (h : ∃ v, (∀ w, S w → (execOp a.eval o).run P w = .ok (.value v) w) ∧ wpHeld P ops S K r (a.put o.dst v)) : wpHeld P ops S K (o :: r) a := by
  unfold wpHeld
  rw [if_pos hw]
  exact h
end
end Go.Proofs.Ytkaiibipcnlaiaa.Hand
/- General laws: what an argument reads as, told of numbers, texts, lists and records: for rows of laws over structs and slices of structs. No condition of its own. -/
namespace Go.Proofs.Ytkaiibipcnlaiaa.Hand
open Go Go.RowKit Go.Deep Go.Proofs.YtkaiibipcnlaiaaW.PrintWords

/-- Whatever reads at type t reads as the kind d tells; W: what is known of it. -/
def RdB {α : Type} (P : Program) (t : TypeId) (d : Kd α) (W : α → Prop) : Prop :=
  ∀ {H : Type} {enc : TypeId × Value → H} {w : World} {base : Nat} {spare : Nat → Bool} {held : Bool} {fuel : Nat} {cs : List Value} {x : DataW H × List MemPlace},
    DataW.trod enc P w base spare held fuel t cs = some x → (∀ n ∈ x.1.weights P t, n ≤ reachBytes) → ∃ y : α, d.K w y cs ∧ W y

theorem RdB.int {P : Program} {t : TypeId} {k : IntKind} (ht : P.underlying t = some (.int k)) : RdB P t (Kd.int k) (fun n => (Lit.int k n).wf = true) := by
  intro H enc w base spare held fuel cs x h _
  obtain ⟨n, rfl, _, hw⟩ := DataW.trod_int ht h
  exact ⟨n, rfl, hw⟩
theorem RdB.bool {P : Program} {t : TypeId} (ht : P.underlying t = some .bool) : RdB P t Kd.bool (fun _ => True) := by
  intro H enc w base spare held fuel cs x h _
  obtain ⟨b, rfl, _⟩ := DataW.trod_bool ht h
  exact ⟨b, rfl, trivial⟩
theorem RdB.string {P : Program} {t : TypeId} (ht : P.underlying t = some .string) : RdB P t Kd.string (fun s => s.size ≤ 140737488351232) := by
  intro H enc w base spare held fuel cs x h hw
  obtain ⟨s, rfl, rfl, _⟩ := DataW.trod_string ht h
  refine ⟨s, rfl, ?_⟩
  have := hw s.data.toList.length (by simp [DataW.weights])
  rw [Array.length_toList] at this
  exact this

theorem cells_at {w : World} {base : Nat} {a : Addr} {n : Nat} {cs : List Value} (h : w.cells? base a n = some cs) : cs.length = n ∧ ∀ i u, cs[i]? = some u → w.cell? (a.add i) = some u := by
  unfold World.cells? at h
  split at h
  · refine ⟨by simpa using mapM_some_length h, fun i u hu => ?_⟩
    have hi : i < cs.length := (List.getElem?_eq_some_iff.1 hu).1
    have hl := mapM_some_length h
    simp only [List.length_range] at hl
    have hlr : (List.range n)[i]? = some i := List.getElem?_range (by omega)
    have := mapM_some_get h i i hlr
    rw [this, hu]
  · cases h

theorem weights_all {H : Type} {P : Program} {e : TypeId} : ∀ {l : List (DataW H)} {d : DataW H}, d ∈ l → ∀ n ∈ d.weights P e, n ∈ DataW.weightsAll P e l
  | d0 :: l, d, hd, n, hn => by
    simp only [DataW.weightsAll, List.mem_append]
    rcases List.mem_cons.1 hd with rfl | hd
    · exact .inl hn
    · exact .inr (weights_all hd n hn)

theorem RdB.slice {α : Type} {P : Program} {t e : TypeId} {d : Kd α} {W : α → Prop} (B : Nat) (ht : P.underlying t = some (.slice e)) (hc : P.cellsOf e = d.sz) (hB : P.bytesOf e = B) (he : RdB P e d W) :
    RdB P t (Kd.slice e d) (fun xs => xs.length ≤ 9223372036854775807 ∧ xs.length * B ≤ 140737488351232 ∧ ∀ x ∈ xs, W x) := by
  intro H enc w base spare held fuel cs x h hw
  rcases open_slice ht h with ⟨rfl, rfl⟩ | ⟨a, len, cap, m, n, D, Pl, rfl, _, hl, hm, hmm, rfl, hx⟩
  · exact ⟨[], ⟨none, 0, rfl, Nat.le_refl _, rfl, by simp, fun h0 => absurd h0 (by simp)⟩, by simp, by simp, by simp⟩
  · have hlen : len ≤ m := by rw [hmm]; split <;> omega
    have hwt : ∀ n' ∈ (DataW.slice ((List.range len).map D) ((List.range (m - len)).map fun j => D (len + j))).weights P t, n' ≤ reachBytes := hw
    simp only [DataW.weights, ht, List.mem_cons, List.mem_append] at hwt
    have h1 := hwt _ (.inl rfl)
    have hel : ∀ i, i < len → ∃ y : α, ∃ c, c.length = d.sz ∧ d.K w y c ∧ W y ∧ ∀ j u, c[j]? = some u → w.cell? (a.add (i * d.sz + j)) = some u := fun i hi => by
      obtain ⟨c, hcc, htr⟩ := hx i (by omega)
      obtain ⟨y, hK, hWy⟩ := he htr (fun n' hn' => hwt n' (.inr (.inl (weights_all (List.mem_map.2 ⟨i, by simpa using hi, rfl⟩) n' hn'))))
      obtain ⟨hcl, hat⟩ := cells_at hcc
      rw [hc] at hcl hat
      exact ⟨y, c, hcl, hK, hWy, fun j u hu => by have := hat j u hu; rwa [Go.Deep.add_add] at this⟩
    have hex : ∃ xs : List α, xs.length = len ∧ ∀ i y, xs[i]? = some y → ∃ c, c.length = d.sz ∧ d.K w y c ∧ W y ∧ ∀ j u, c[j]? = some u → w.cell? (a.add (i * d.sz + j)) = some u := by
      clear hwt h1 hx hw h
      have : ∀ k, k ≤ len → ∃ xs : List α, xs.length = k ∧ ∀ i y, xs[i]? = some y → ∃ c, c.length = d.sz ∧ d.K w y c ∧ W y ∧ ∀ j u, c[j]? = some u → w.cell? (a.add (i * d.sz + j)) = some u := by
        intro k
        induction k with
        | zero => exact fun _ => ⟨[], rfl, fun i y hy => by simp at hy⟩
        | succ k ih =>
          intro hk
          obtain ⟨xs, hxl, hxs⟩ := ih (by omega)
          obtain ⟨y, c, h1, h2, h3, h4⟩ := hel k (by omega)
          refine ⟨xs ++ [y], by simp [hxl], fun i z hz => ?_⟩
          rcases Nat.lt_or_ge i xs.length with hi | hi
          · rw [List.getElem?_append_left hi] at hz
            exact hxs i z hz
          · rw [List.getElem?_append_right hi] at hz
            have hi0 : i - xs.length = 0 := by
              have := (List.getElem?_eq_some_iff.1 hz).1
              simp at this
              omega
            rw [hi0] at hz
            simp only [List.getElem?_cons_zero, Option.some.injEq] at hz
            subst hz
            obtain rfl : i = k := by omega
            exact ⟨c, h1, h2, h3, h4⟩
      exact this len (Nat.le_refl _)
    obtain ⟨xs, hxl, hxs⟩ := hex
    subst hxl
    refine ⟨xs, ⟨some a, cap, rfl, hl, rfl, by unfold maxLen at hm; omega, fun _ => ⟨a, rfl, fun j p hp => ?_⟩⟩, by unfold maxLen at hm; omega, ?_, fun x hxm => ?_⟩
    · obtain ⟨c, h1, h2, _, h4⟩ := hxs j p hp
      exact ⟨c, h1, h2, h4⟩
    · rw [hB] at h1
      simp only [List.length_map, List.length_range] at h1
      have h2 : xs.length * B ≤ (xs.length + (m - xs.length)) * B := Nat.mul_le_mul_right _ (by omega)
      have h3 : reachBytes = 140737488351232 := by decide
      omega
    · obtain ⟨i, hi⟩ := List.getElem?_of_mem hxm
      obtain ⟨_, _, _, h3, _⟩ := hxs i x hi
      exact h3

/-- Where field number i begins. -/
def offs (P : Program) : List TypeId → Nat → Nat
  | _, 0 => 0
  | [], _ => 0
  | t :: ts, i + 1 => P.cellsOf t + offs P ts i

/-- The fields ts, from cell o on, read as d tells. -/
def RdF {β : Type} (P : Program) (ts : List TypeId) (d : Kd β) (W : β → Prop) : Prop :=
  ∀ {H : Type} {enc : TypeId × Value → H} {w : World} {base : Nat} {spare : Nat → Bool} {held : Bool} {n : Nat} (cs : List Value) (xs : List (DataW H × List MemPlace)),
    cs.length = d.sz → xs.length = ts.length → (∀ i t, ts[i]? = some t → DataW.trod enc P w base spare held n t ((cs.drop (offs P ts i)).take (P.cellsOf t)) = xs[i]?) →
    (∀ (i : Nat) (t : TypeId) (x : DataW H × List MemPlace), ts[i]? = some t → xs[i]? = some x → ∀ m ∈ x.1.weights P t, m ≤ reachBytes) → ∃ y, d.K w y cs ∧ W y

theorem RdF.one {α : Type} {P : Program} {t : TypeId} {d : Kd α} {W : α → Prop} (hc : P.cellsOf t = d.sz) (h : RdB P t d W) : RdF P [t] d W := by
  intro H enc w base spare held n cs xs hl hxl htr hwt
  have h0 := htr 0 t rfl
  have hx : xs[0]? = some (xs[0]'(by simp at hxl; omega)) := List.getElem?_eq_getElem _
  simp only [offs, List.drop_zero] at h0
  rw [hc, ← hl, List.take_length, hx] at h0
  exact h h0 (hwt 0 t _ rfl hx)

theorem RdF.cons {α β : Type} {P : Program} {t : TypeId} {ts : List TypeId} {d : Kd α} {d' : Kd β} {W : α → Prop} {W' : β → Prop} (hc : P.cellsOf t = d.sz) (h : RdB P t d W) (h' : RdF P ts d' W') :
    RdF P (t :: ts) (Kd.pair d d') (fun x => W x.1 ∧ W' x.2) := by
  intro H enc w base spare held n cs xs hl hxl htr hwt
  have hl' : cs.length = d.sz + d'.sz := hl
  cases xs with
  | nil => simp at hxl
  | cons x xs =>
    have h0 := htr 0 t rfl
    simp only [offs, List.drop_zero, List.getElem?_cons_zero] at h0
    rw [hc] at h0
    obtain ⟨y, hK, hW⟩ := h h0 (hwt 0 t x rfl rfl)
    obtain ⟨y', hK', hW'⟩ := h' (cs.drop d.sz) xs (by simp; omega) (by simpa using hxl) (fun i u hu => by
      have := htr (i + 1) u (by simpa using hu)
      simp only [offs, List.getElem?_cons_succ] at this
      rw [hc] at this
      rw [List.drop_drop]
      exact this) (fun i u z hu hz => hwt (i + 1) u z (by simpa using hu) (by simpa using hz))
    exact ⟨(y, y'), ⟨cs.take d.sz, cs.drop d.sz, (List.take_append_drop _ _).symm, hK, hK'⟩, hW, hW'⟩

theorem RdB.struct {β γ : Type} {P : Program} {t : TypeId} {fs : Array Field} {ts : List TypeId} {d : Kd β} {W : β → Prop} (f : γ → β) (g : β → γ) (ht : P.underlying t = some (.struct fs)) (hts : fs.toList.map (·.type) = ts)
    (hof : fs.toList.map (·.offset) = (List.range ts.length).map (offs P ts)) (hsz : P.cellsOf t = d.sz) (hfg : ∀ y, f (g y) = y) (hF : RdF P ts d W) : RdB P t (Kd.iso d f) (fun x => W (f x)) := by
  intro H enc w base spare held fuel cs x h hw
  obtain ⟨xs, n, _, rfl, hl, hxl, hall⟩ := DataW.trod_struct ht h
  have hlen : ts.length = fs.size := by rw [← hts]; simp
  obtain ⟨y, hK, hW⟩ := hF (enc := enc) (w := w) (base := base) (spare := spare) (held := held) (n := n) cs xs (hl.trans hsz) (hxl.trans hlen.symm) (fun i u hu => by
      have hi : i < ts.length := (List.getElem?_eq_some_iff.1 hu).1
      have hfi : fs[i]? = some (fs[i]'(by omega)) := by simp
      have h1 := hall i _ hfi
      have e1 : (fs[i]'(by omega)).type = u := by
        have h2 : (fs.toList.map (·.type))[i]? = some u := by rw [hts]; exact hu
        simp only [List.getElem?_map, Array.getElem?_toList, hfi, Option.map_some, Option.some.injEq] at h2
        exact h2
      have e2 : (fs[i]'(by omega)).offset = offs P ts i := by
        have h2 : (fs.toList.map (·.offset))[i]? = ((List.range ts.length).map (offs P ts))[i]? := by rw [hof]
        simp only [List.getElem?_map, Array.getElem?_toList, hfi, Option.map_some, List.getElem?_range hi, Option.some.injEq] at h2
        exact h2
      rw [e1, e2] at h1
      exact h1) (fun i u z hu hz m hm => by
      refine hw m ?_
      simp only [DataW.weights, ht]
      rw [hts]
      exact DataW.weights_mem_each hu (by simp [hz]) m hm)
  exact ⟨g y, by show d.K w (f (g y)) cs; rw [hfg]; exact hK, by show W (f (g y)); rw [hfg]; exact hW⟩
theorem offs_same (P : Program) (e : TypeId) : ∀ n i, i < n → offs P (List.replicate n e) i = i * P.cellsOf e
  | _, 0, _ => by simp [offs]
  | 0, i + 1, h => by omega
  | n + 1, i + 1, h => by
    have ih := offs_same P e n i (by omega)
    show P.cellsOf e + offs P (List.replicate n e) i = _
    rw [ih, Nat.succ_mul, Nat.add_comm]

theorem weights_all' {H : Type} {P : Program} {e : TypeId} {l : List (DataW H)} {i : Nat} {d : DataW H} (hd : l[i]? = some d) : ∀ n ∈ d.weights P e, n ∈ DataW.weightsAll P e l :=
  weights_all (List.mem_of_getElem? hd)

/-- A small array, told as a record of its elements. -/
theorem RdB.array {β γ : Type} {P : Program} {t e : TypeId} {d : Kd β} {W : β → Prop} (m : Nat) (f : γ → β) (g : β → γ) (ht : P.underlying t = some (.array m e)) (hsz : P.cellsOf t = d.sz) (hfg : ∀ y, f (g y) = y) (hF : RdF P (List.replicate m e) d W) : RdB P t (Kd.iso d f) (fun x => W (f x)) := by
  intro H enc w base spare held fuel cs x h hw
  cases fuel with
  | zero => simp [DataW.trod] at h
  | succ n =>
    unfold DataW.trod at h
    rw [ht] at h
    have h' : ∃ xs : List (DataW H × List MemPlace), cs.length = P.cellsOf t ∧ ((List.range m).mapM fun i => DataW.trod enc P w base spare held n e ((cs.drop (i * P.cellsOf e)).take (P.cellsOf e))) = some xs ∧ x = (.agg (xs.map (·.1)), xs.flatMap (·.2)) := by
      revert h
      split <;> intro h <;> first | (simp at h; done) | skip
      all_goals (try simp_all)
      all_goals (try (obtain ⟨hl, xs, hp, hd⟩ := h; exact ⟨xs, hp, hd.symm⟩))
    obtain ⟨xs, hl, hp, rfl⟩ := h'
    have hxl : xs.length = m := by simpa using mapM_some_length hp
    obtain ⟨y, hK, hW⟩ := hF (enc := enc) (w := w) (base := base) (spare := spare) (held := held) (n := n) cs xs (hl.trans hsz) (by simp [hxl]) (fun i u hu => by
        have hi : i < m := by have := (List.getElem?_eq_some_iff.1 hu).1; simpa using this
        have hu' : u = e := by rw [List.getElem?_replicate] at hu; simp [hi] at hu; exact hu.symm
        subst hu'
        have := mapM_some_get hp i i (List.getElem?_range hi)
        rw [offs_same P u m i hi]
        exact this) (fun i u z hu hz k hk => by
        have hi : i < m := by have := (List.getElem?_eq_some_iff.1 hu).1; simpa using this
        have hu' : u = e := by rw [List.getElem?_replicate] at hu; simp [hi] at hu; exact hu.symm
        subst hu'
        refine hw k ?_
        simp only [DataW.weights, ht]
        exact weights_all' (i := i) (by simp [hz]) k hk)
    exact ⟨g y, by show d.K w (f (g y)) cs; rw [hfg]; exact hK, by show W (f (g y)); rw [hfg]; exact hW⟩

theorem sized_at {H : Type} {P : Program} {ts : List TypeId} {ds : List (DataW H)} {j : Nat} {t : TypeId} {d : DataW H} (hsz : (DataW.weightsEach P ts ds).all (· ≤ reachBytes) = true) (ht : ts[j]? = some t) (hd : ds[j]? = some d) :
    ∀ n ∈ d.weights P t, n ≤ reachBytes := fun n hn => by
  have := List.all_eq_true.1 hsz _ (DataW.weights_mem_each ht hd n hn)
  simpa using this
/-- An argument that is a slice. -/
theorem arg_slice {α H : Type} {enc : TypeId × Value → H} {P : Program} {W : World} {base : Nat} {spare : Nat → Bool} {held : Bool} {t e : TypeId} {d : Kd α} {V : List α → Prop} {a : Option Addr} {len cap : Nat} {x : DataW H} {ps : List MemPlace}
    (hr : RdB P t (Kd.slice e d) V) (h : DataW.Trod enc P W base spare held t (.slice a len cap) x ps) (hw : ∀ n ∈ x.weights P t, n ≤ reachBytes) : ∃ l, len = l.length ∧ l.length ≤ cap ∧ Kd.C d W a l.length l ∧ V l := by
  obtain ⟨fuel, hf⟩ := h
  obtain ⟨l, ⟨A, c, he, hc, hC⟩, hV⟩ := hr hf hw
  have he' : [Value.slice a len cap] = [.slice A l.length c] := he
  injection he' with he' _
  injection he' with h1 h2 h3
  subst h1 h2 h3
  exact ⟨l, rfl, hc, hC, hV⟩
/-- An argument that is a record. -/
theorem arg_struct {α H : Type} {enc : TypeId × Value → H} {P : Program} {W : World} {base : Nat} {spare : Nat → Bool} {held : Bool} {t : TypeId} {d : Kd α} {V : α → Prop} {cs : Array Value} {x : DataW H} {ps : List MemPlace}
    (hr : RdB P t d V) (h : DataW.Trod enc P W base spare held t (.agg cs) x ps) (hw : ∀ n ∈ x.weights P t, n ≤ reachBytes) : ∃ y, d.K W y cs.toList ∧ V y := by
  obtain ⟨fuel, hf⟩ := h
  exact hr hf hw
theorem okWide_array {P : Program} {w : World} {r : Reach} {base : Nat} {t n e : Nat} {v : Value} (ht : P.underlying t = some (.array n e)) (h : Value.okWide P w r base t v) : ∃ cs, v = .agg cs ∧ cs.size = P.cellsOf t := by
  simp only [Value.okWide, ht] at h
  obtain ⟨cs, h1, h2, _⟩ := h
  exact ⟨cs, h1, h2⟩
end Go.Proofs.Ytkaiibipcnlaiaa.Hand
/- General laws: records stored and read whole. No condition of its own. -/
namespace Go.Proofs.Ytkaiibipcnlaiaa.Hand
open Go Go.RowKit Go.Proofs.YtkaiibipcnlaiaaW.PrintWords Go.Proofs.YtkaiibipcnlaiaaW.PrintLast

theorem below_rows {B g : Nat} {w0 w : World} (h : Below B w0 w) (hg : B ≤ g) (cs : Array Value) : Below B w0 (w.setRow g cs) :=
  ⟨h.os, h.tape, h.output, by rw [setRow_size]; exact h.size, fun k hk => (setRow_other w g k cs (by omega)).trans (h.block k hk)⟩
section
variable {P : Program} {ops : Array Oper} {rest : List Oper} {o : Oper} {a : Act} {Q : Exit → Act → World → Prop}
/-- A record stored whole: the world behind it under a name of its own. -/
theorem store_row_event {w : World} (hgd : o.guard = none) (ty : TypeId) (x y : Operand) (ho : o.op = .store ty x y) (hdst : o.dst = none)
    (g : Nat) (cells : Array Value) (hx : a.eval x = .pointer (some ⟨g, 0, none⟩)) (hy : a.eval y = .agg cells)
    (t : TypeId) (old : Array Value) (hg : w.heap[g]? = some (.cells old t (0, 0))) (hi : (P.info? ty).map (·.size) = some cells.size)
    (hold : old.size = cells.size) (h1 : cells.all (·.oneCell') = true)
    (h : ∀ w', w'.heap[g]? = some (.cells cells t (0, 0)) → KeepBut w w' g none → (∀ n w0, n ≤ g → Below n w0 w → Below n w0 w') → wpList P ops Q rest a w') : wpList P ops Q (o :: rest) a w := by
  refine wpList_store_row hgd ty x y ho g cells hx hy t old hg hi hold h1 ?_
  rw [hdst]
  exact h _ (setRow_heap _ _ _ _ _ _ hg) ⟨by simp, fun i hi hig _ => setRow_other _ _ _ _ hig⟩ (fun n w0 hn hb => below_rows hb hn _)
end
end Go.Proofs.Ytkaiibipcnlaiaa.Hand
/- General laws for printed walks, told shortly: facts carried on to a later world, their steps found by the tactics that the laws name. No condition of its own. -/
namespace Go.Proofs.Ytkaiibipcnlaiaa.Hand
open Go Go.RowKit Go.Proofs.YtkaiibipcnlaiaaW.PrintWords Go.Proofs.YtkaiibipcnlaiaaW.PrintLast

section
variable {w W w2 : World} {g g' : Nat} {t : TypeId} {cs cs' : Array Value}
/-- A block that is known, some plain steps later. -/
theorem bx (h : Aside0 (w.heap[g]? = some (.cells cs t (0, 0))))
    (hs : w.heap[g]? = some (.cells cs t (0, 0)) → W.heap[g]? = some (.cells cs t (0, 0)) := by
      intro h_; repeat (first | (with_reducible first | exact h_ | refine blk_drewN ?_ _ | refine blk_drew ?_ | refine blk_alloc ?_ _) | refine blk_far ?_ (Aside0.out (by assumption)) _)) :
    W.heap[g]? = some (.cells cs t (0, 0)) := hs h.out
theorem put_l {l l' : List Value} (h : w.heap[g]? = some (.cells l.toArray t (0, 0))) (i : Nat) (u : Value) (e : l.set i u = l') : (w.setCell ⟨g, i, none⟩ u).heap[g]? = some (.cells l'.toArray t (0, 0)) :=
  blk_put h i u (by subst e; simp)
/-- .. some of whose cells were written. -/
theorem bp {l l' : List Value} (h : Aside0 (w.heap[g]? = some (.cells l.toArray t (0, 0))))
    (hs : w.heap[g]? = some (.cells l.toArray t (0, 0)) → W.heap[g]? = some (.cells l'.toArray t (0, 0)) := by
      intro h_; (repeat (first | (with_reducible first | exact h_ | refine blk_drewN ?_ _ | refine blk_drew ?_ | refine blk_alloc ?_ _ | apply put_l) | refine blk_far ?_ (Aside0.out (by assumption)) _)); all_goals rfl) :
    W.heap[g]? = some (.cells l'.toArray t (0, 0)) := hs h.out
theorem bb (h : Aside0 (w.heap[g]? = some (.cells cs t (0, 0)))) (hb : Below W.heap.size W w2)
    (hs : w.heap[g]? = some (.cells cs t (0, 0)) → W.heap[g]? = some (.cells cs t (0, 0)) := by
      intro h_; repeat (first | (with_reducible first | exact h_ | refine blk_drewN ?_ _ | refine blk_drew ?_ | refine blk_alloc ?_ _) | refine blk_far ?_ (Aside0.out (by assumption)) _)) :
    Aside0 (w2.heap[g]? = some (.cells cs t (0, 0))) := ⟨blk_below (hs h.out) hb⟩
theorem nbl (h : Aside0 (w.heap[g]? = some (.cells cs t (0, 0)))) (hg : g' = W.heap.size)
    (hs : w.heap[g]? = some (.cells cs t (0, 0)) → W.heap[g]? = some (.cells cs t (0, 0)) := by
      intro h_; repeat (first | (with_reducible first | exact h_ | refine blk_drewN ?_ _ | refine blk_drew ?_ | refine blk_alloc ?_ _) | refine blk_far ?_ (Aside0.out (by assumption)) _)) :
    Aside0 (g ≠ g') := ⟨by rw [hg]; exact Nat.ne_of_lt (blk_lt (hs h.out))⟩
theorem nbg (h : Aside0 (w.heap[g]? = some (.cells cs t (0, 0)))) (hg : g' = W.heap.size)
    (hs : w.heap[g]? = some (.cells cs t (0, 0)) → W.heap[g]? = some (.cells cs t (0, 0)) := by
      intro h_; repeat (first | (with_reducible first | exact h_ | refine blk_drewN ?_ _ | refine blk_drew ?_ | refine blk_alloc ?_ _) | refine blk_far ?_ (Aside0.out (by assumption)) _)) :
    Aside0 (g' ≠ g) := ⟨by rw [hg]; exact Nat.ne_of_gt (blk_lt (hs h.out))⟩
theorem bc (h : Aside0 (w.heap[g]? = some (.cells cs t (0, 0)))) (i : Nat) {v : Value} (e : cs[i]? = some v := by rfl) : w.cell? ⟨g, i, none⟩ = some v := (blk_cell h.out i).trans e
theorem cz_ (h : Aside0 (w.heap[g]? = some (.cells cs t (0, 0)))) {n : Nat} {vs : List Value} (e : cs.toList.take n = vs) (i : Nat) {v : Value} (hv : vs[i]? = some v) : w.cell? ⟨g, i, none⟩ = some v := by
  rw [blk_cell h.out i]
  subst e
  rw [List.getElem?_take] at hv
  split at hv
  · simpa using hv
  · cases hv
theorem cfa {a : Addr} {j : Nat} {u : Value} {v : Option Value} (h : a.block ≠ g) (e : W.cell? a = v) : (W.setCell ⟨g, j, none⟩ u).cell? a = v := (cell_far (p := ⟨g, j, none⟩) h u).trans e
end
section
variable {w W w2 : World} {g : Nat}
/-- What lies below, some plain steps later. -/
theorem bw (h : Aside0 (Below w.heap.size w W))
    (hs : Below w.heap.size w W → Below w.heap.size w w2 := by
      intro h_; repeat (first | (with_reducible first | exact h_ | apply below_alloc | apply pw_below_drewN | apply below_drew1 | refine below_set ?_ (Aside0.out (by assumption))) | exact h_)) : Below w.heap.size w w2 := hs h.out
theorem bh {w3 : World} (h : Aside0 (Below w.heap.size w W)) (hb : Below w2.heap.size w2 w3)
    (hs : Below w.heap.size w W → Below w.heap.size w w2 := by
      intro h_; repeat (first | (with_reducible first | exact h_ | apply below_alloc | apply pw_below_drewN | apply below_drew1 | refine below_set ?_ (Aside0.out (by assumption))) | exact h_)) : Aside0 (Below w.heap.size w w3) := ⟨below_step (hs h.out) hb⟩
theorem bge (h : Aside0 (Below w.heap.size w W)) (hg : g = w2.heap.size)
    (hs : Below w.heap.size w W → Below w.heap.size w w2 := by
      intro h_; repeat (first | (with_reducible first | exact h_ | apply below_alloc | apply pw_below_drewN | apply below_drew1 | refine below_set ?_ (Aside0.out (by assumption))) | exact h_)) : Aside0 (w.heap.size ≤ g) := ⟨by rw [hg]; exact below_size (hs h.out)⟩
theorem rx {α : Type} {d : Kd α} {e base : Nat} {ok : Nat → Prop} {v : Value} {xs : List α} (h : Aside0 (d.R e w base ok v xs))
    (hs : d.R e w base ok v xs → d.R e W base ok v xs := by
      intro h_; with_reducible repeat (first | exact h_ | apply Kd.R_alloc | apply Kd.R_drewN | apply Kd.R_drew)) : d.R e W base ok v xs := hs h.out
end
section
variable {P : Program} {ops : Array Oper} {Q : Exit → Act → World → Prop}
theorem goesB {rest : List Oper} {oi : Oper} {a : Act} {w : World} (N : Option Tmp) (hd : oi.dst = N) (hg : oi.guard = none) {f : FuncId} {fn : Func} {ps : Array Operand} {ts : Array TypeId} (hf : P.funcs[f]? = some fn) (args : Array Value)
    (hop : oi.op = .call { callee := .value (.func f), args := ps, argTypes := ts }) (h : Calls P f args w fun e w' => ∃ v, e = .returned v ∧ wpList P ops Q rest (a.put N v) w')
    (hname : (fn.name == "runtime.NumGoroutine") = false := by kernel_rfl) (hb : fn.body.isSome = true := by rfl)
    (hargs : ps.map a.eval = args := by ((try simp only [List.map_toArray, List.map_cons, List.map_nil]); first | done | rfl | (simp only [List.length_drop, List.length_take]; rfl))) : wpList P ops Q (oi :: rest) a w :=
  goesL_ N hd hg hf hname hb args hop hargs h
end
end Go.Proofs.Ytkaiibipcnlaiaa.Hand
/- General laws on rows that are read while loops over iterators run. No condition of its own. -/
namespace Go.Proofs.Ytkaiibipcnlaiaa.Hand
open Go Go.RowKit Go.Proofs.YtkaiibipcnlaiaaW.PrintWords Go.Proofs.YtkaiibipcnlaiaaW.PrintLast
section
variable {α : Type} {d : Kd α} {n₀ n : Nat} {Bs : List Nat} {w w' : World} {A : Option Addr} {xs : List α}
/-- What lies below, and is read cell by cell, is read as before. -/
theorem C_keepI (hd : ∀ {W W' : World} {x : α} {cs : List Value}, d.K W x cs → d.K W' x cs) (h : d.C w A n xs) (hA : ∀ ad, A = some ad → 0 < n → ad.block < n₀) (hk : KeepI n₀ Bs w w') : d.C w' A n xs :=
  ⟨h.1, h.2.1, fun hn => by
    obtain ⟨ad, e, hc⟩ := h.2.2 hn
    refine ⟨ad, e, fun j p hp => ?_⟩
    obtain ⟨c, hcl, hK, hcell⟩ := hc j p hp
    exact ⟨c, hcl, hd hK, fun i u hu => hk.cell (.inl (by rw [add_block]; exact hA ad e hn)) (hcell i u hu)⟩⟩
theorem KeepI.below {A B C : World} (h : KeepI n₀ Bs A B) (k : Below B.heap.size B C) : KeepI n₀ Bs A C := h.trans (KeepI.of_below k)
theorem boxed_keepI {b : Nat} {t : TypeId} {v : Value} (h : Boxed w b t v) (hk : KeepI n₀ Bs w w') (hb : b < n₀ ∨ b ∈ Bs) : Boxed w' b t v := (hk.block b (Array.getElem?_eq_some_iff.1 h).1 hb).trans h
theorem boxed_below {b : Nat} {t : TypeId} {v : Value} (h : Boxed w b t v) (hk : Below w.heap.size w w') : Boxed w' b t v := (hk.block b (Array.getElem?_eq_some_iff.1 h).1).trans h
end
section
variable {P : Program} {fn : Func} {w : World}
/-- Results that lie in two cells: a slice, and a number. -/
theorem results_si {p q : Tmp} {ty ty' e : TypeId} {k : IntKind} (h : fn.results = #[.cell p ty, .cell q ty']) (hu : P.underlying ty = some (.slice e)) (hu' : P.underlying ty' = some (.int k))
    (tmps : Array Value) (w : World) (g g' : Nat) (v v' : Value) (hp : tmps.getD p undef = .pointer (some ⟨g, 0, none⟩)) (hq : tmps.getD q undef = .pointer (some ⟨g', 0, none⟩)) (hv : w.cell? ⟨g, 0, none⟩ = some v) (hv' : w.cell? ⟨g', 0, none⟩ = some v') :
    (results fn tmps).run P w = .ok (.tuple #[v, v']) w := by
  have h1 : tmps[p]?.getD undef = .pointer (some ⟨g, 0, none⟩) := by simpa using hp
  have h2 : tmps[q]?.getD undef = .pointer (some ⟨g', 0, none⟩) := by simpa using hq
  have e1 := run_underlying hu
  have e2 := run_underlying hu'
  simp [results, h, h1, h2, asAddr, loadVar, isAgg, e1, e2, go_sem, hv, hv']
theorem leave_si {F : Fence} {n : Nat} {tmps : Array Value} {R : Ending → World → Prop} {p q : Tmp} {ty ty' e : TypeId} {k : IntKind} (h : fn.results = #[.cell p ty, .cell q ty']) (hu : P.underlying ty = some (.slice e)) (hu' : P.underlying ty' = some (.int k))
    (g g' : Nat) (v v' : Value) (hp : tmps.getD p undef = .pointer (some ⟨g, 0, none⟩)) (hq : tmps.getD q undef = .pointer (some ⟨g', 0, none⟩)) (hv : w.cell? ⟨g, 0, none⟩ = some v) (hv' : w.cell? ⟨g', 0, none⟩ = some v')
    (hR : R (.returned (.tuple #[v, v'])) w) : LeavesInM F n P fn tmps R [] .returning w := ⟨_, results_si h hu hu' tmps w g g' v v' hp hq hv hv', hR⟩
end
theorem addr_add_zero' (b : Nat) : (⟨b, 0, none⟩ : Addr).add 0 = ⟨b, 0, none⟩ := by unfold Addr.add; split <;> simp_all
/-- A row of one number that has just been made. -/
theorem C_one {k : IntKind} (w : World) (t : TypeId) (x : Int) : Kd.C (Kd.int k) (w.alloc (.cells #[.int k x] t)) (some ⟨w.heap.size, 0, none⟩) ([x] : List Int).length [x] :=
  ⟨rfl, by simp, fun _ => ⟨_, rfl, fun j p hp => by
    obtain ⟨rfl, rfl⟩ : j = 0 ∧ p = x := by
      cases j with
      | zero => simpa using hp.symm
      | succ j => simp at hp
    exact ⟨[.int k p], rfl, rfl, fun i u hu => by
      cases i with
      | zero =>
        simp only [List.getElem?_cons_zero, Option.some.injEq] at hu
        subst hu
        have := (Boxed.new w t (.int k p)).cell
        rw [show 0 * (Kd.int k).sz + 0 = 0 by simp, addr_add_zero']
        exact this
      | succ i => simp at hu⟩⟩⟩
theorem R_one {k : IntKind} (w : World) (e : TypeId) (x : Int) (base : Nat) (ok : Nat → Prop) (hb : base ≤ w.heap.size) (hok : ok w.heap.size) : Kd.R (Kd.int k) e (w.alloc (.cells #[.int k x] e)) base ok (.slice (some ⟨w.heap.size, 0, none⟩) 1 1) [x] :=
  ⟨fun j hj => by simp [Value.ownBlock] at hj; exact hj ▸ hok, [.int k x], by
    have := World.ownsRow_lit (base := base) (e := e) (size := 1) w #[.int k x] 1 hb (by simp [maxLen]) (by simp)
    rw [show (Kd.int k).sz = 1 from rfl]
    simpa using this, Reps.one (show Kd.M (Kd.int k) _ _ _ x [.int k x] from rfl) (Reps.none _ _)⟩
theorem boxed_new (w : World) (b : Nat) (t : TypeId) (v : Value) (h : w.heap.size = b) : Boxed (w.alloc (.cells #[v] t)) b t v := by
  subst h
  exact Boxed.new w t v
theorem boxed_set {w : World} {b : Nat} {t : TypeId} {v : Value} (h : Boxed w b t v) (u : Value) : Boxed (w.setCell ⟨b, 0, none⟩ u) b t u := h.set u
end Go.Proofs.Ytkaiibipcnlaiaa.Hand
/- General laws for loops over iterators that keep a count of their own in memory. No condition of its own. -/
namespace Go.Proofs.Ytkaiibipcnlaiaa.Hand
open Go Go.RowKit Go.Proofs.YtkaiibipcnlaiaaW.PrintWords Go.Proofs.YtkaiibipcnlaiaaW.PrintLast
section
variable {P : Program}
/-- The iterator's contract, for one that writes boxes of its own (the blocks Ms): function gf with what it has captured hands the elements of xs, in order, to yield; it stops where yield says no. -/
def IterM {α : Type} (P : Program) (gf : Nat) (lb : Array Value) (encs : α → Array Value) (n₀ : Nat) (Bs Ms : List Nat) (xs : List α) (w : World) : Prop :=
  ∀ (l : Nat) (J : List α → World → Prop) (Jx : World → Prop) (W : World), Below w.heap.size w W →
    (∀ pre W1 W2, J pre W1 → Below W1.heap.size W1 W2 → J pre W2) → (∀ W1 W2, Jx W1 → Below W1.heap.size W1 W2 → Jx W2) →
    (∀ pre W1 p v, J pre W1 → p.block ∈ Ms → J pre (W1.setCell p v)) →
    (∀ pre x rest W1, xs = pre ++ x :: rest → J pre W1 → YieldAt Fence.wide 7 P l (encs x) W1 fun e W2 =>
      (e = .returned (.bool true) ∧ J (pre ++ [x]) W2 ∧ KeepI n₀ Bs W1 W2) ∨ (e = .returned (.bool false) ∧ Jx W2)) →
    J [] W →
    CallsIn Fence.wide 8 P gf (#[.func (.yield l) #[] #[]] ++ lb) W fun e W' => (∃ v, e = .returned v) ∧ (J xs W' ∨ Jx W')

/-- 'for .. := range it': by the iterator's contract and the walk of one round. -/
theorem wp_rangeM {α : Type} {g : Operand} {ps : Array Tmp} {assign body : Code} {Q : Exit → Act → World → Prop} {a : Act} {w : World}
    {gf : Nat} {lb : Array Value} {encs : α → Array Value} {xs : List α} {n₀ : Nat} {Bs Ms : List Nat}
    (hg : a.eval g = .func (.func gf) #[] lb) (eg : ∀ args w, (callFunc gf args).run P w = .ok (.enter gf args) w)
    (hit : IterM P gf lb encs n₀ Bs Ms xs w) (hMs : ∀ B ∈ Ms, B < w.heap.size) (hn : n₀ ≤ w.heap.size) (hBs : ∀ B ∈ Bs, B < w.heap.size) (hps : ∀ x, (encs x).size = ps.size)
    (I : List α → World → Prop) (Ix : Code → World → Prop) (hI : ∀ s, Bide w.heap.size (I s)) (hIM : ∀ s W p v, I s W → p.block ∈ Ms → I s (W.setCell p v)) (hIx : ∀ c, Bide w.heap.size (Ix c)) (h0 : I [] w) (a₁ : α → Act)
    (hassign : ∀ (l : Nat) (x : α) (W : World) (K : Act → World → Prop), K (a₁ x) W →
      assign.wpIn (RF l) 7 P (Exit.then K (fun _ _ _ => False)) { tmps := (ps.zip (encs x)).foldl (fun t (p, v) => t.setIfInBounds p v) a.tmps, defers := [] } W)
    (hbody : ∀ (l : Nat) (pre : List α) (x : α) (rest : List α) (W : World), xs = pre ++ x :: rest → w.heap.size ≤ W.heap.size → I pre W → body.wpIn (RF l) 7 P (roundQ n₀ Bs I Ix (pre ++ [x]) W) (a₁ x) W)
    (hdone : ∀ (D : Nat) (W : World), w.heap.size ≤ D → I xs W → W.heap[D]? = some (.deferred (some [])) → Q .normal { a with defers := { target := .collected D, args := #[] } :: a.defers } W)
    (hstop : ∀ (D : Nat) (c : Code) (W : World), w.heap.size ≤ D → Ix c W → W.heap[D]? = some (.deferred (some [])) → c.wp P Q { a with defers := { target := .collected D, args := #[] } :: a.defers } W) :
    (Code.rangeFunc g ps assign body).wp P Q a w := by
  refine (wpIn_wide (n := 9)).1 (wpIn_rangeFunc ?_)
  intro fn hfn
  obtain ⟨rec, hrec⟩ : ∃ rec : LoopState → Option Code → Loop, rec = fun st pe => { state := st, pending := pe, fn, tmps := a.tmps, params := ps, assign, body, defers := w.heap.size } := ⟨_, rfl⟩
  obtain ⟨W1, hW1⟩ : ∃ W1, (w.alloc (.deferred (some []))).alloc (.loop (rec .ready none)) = W1 := ⟨_, rfl⟩
  have hL1 : W1.heap[w.heap.size + 1]? = some (.loop (rec .ready none)) := by
    rw [← hW1]
    have := World.alloc_heap_new (w.alloc (.deferred (some []))) (.loop (rec .ready none))
    rwa [World.size_alloc] at this
  have hK1 : W1.heap[w.heap.size]? = some (.deferred (some [])) := by
    rw [← hW1]
    exact (Below.heap_alloc _ _ _ (by simp)).trans (World.alloc_heap_new w _)
  have hb1 : Below w.heap.size w W1 := by
    rw [← hW1]
    exact ((Below.refl _ w).alloc (Nat.le_refl _) _).alloc (by simp) _
  have hI1 : I [] W1 := (hI []).of_below h0 hb1
  refine ⟨w.heap.size + 1, [{ target := .collected w.heap.size, args := #[] }], W1, { target := .fn (.func gf) lb, args := #[.func (.yield (w.heap.size + 1)) #[] #[]] }, W1, gf,
    #[.func (.yield (w.heap.size + 1)) #[] #[]] ++ lb, W1, ?_, ?_, ?_, ?_, fun h => by simp [Fence.wide] at h, ?_⟩
  · rw [← hW1, hrec]
    exact run_enterLoop_outer _ _ _ _ _
  · simp only [resolve, hg]
    simp [go_sem]
  · intro f' _
    trivial
  · simp [invoke, go_sem, eg]
  · refine (hit (w.heap.size + 1)
      (fun pre W => w.heap.size ≤ W.heap.size ∧ I pre W ∧ W.heap[w.heap.size + 1]? = some (.loop (rec .ready none)) ∧ W.heap[w.heap.size]? = some (.deferred (some [])))
      (fun W => ∃ c, Ix c W ∧ W.heap[w.heap.size + 1]? = some (.loop (rec .done (some c))) ∧ W.heap[w.heap.size]? = some (.deferred (some [])))
      W1 hb1 ?_ ?_ ?_ ?_ ⟨hb1.size, hI1, hL1, hK1⟩).mono ?_
    · rintro pre A B ⟨hz, hi, hl, hk⟩ hb
      exact ⟨Nat.le_trans hz hb.size, (hI pre).of_below hi hb, (hb.block _ (Array.getElem?_eq_some_iff.1 hl).1).trans hl, (hb.block _ (Array.getElem?_eq_some_iff.1 hk).1).trans hk⟩
    · rintro A B ⟨c, hi, hl, hk⟩ hb
      exact ⟨c, (hIx c).of_below hi hb, (hb.block _ (Array.getElem?_eq_some_iff.1 hl).1).trans hl, (hb.block _ (Array.getElem?_eq_some_iff.1 hk).1).trans hk⟩
    · rintro pre W p v ⟨hz, hi, hl, hk⟩ hp
      have hlt := hMs _ hp
      exact ⟨by simpa [World.setCell] using hz, hIM pre W p v hi hp, (Below.heap_setCell W p v _ (by omega)).trans hl, (Below.heap_setCell W p v _ (by omega)).trans hk⟩
    · rintro pre x rest W hx ⟨hz, hi, hl, hk⟩
      have hlt : w.heap.size + 1 < W.heap.size := (Array.getElem?_eq_some_iff.1 hl).1
      have hy := run_yield (P := P) (args := encs x) hl (by rw [hrec]; exact hps x)
      rw [hrec] at hy
      refine ⟨fn, _, assign, body, hy, roundIn_of_wpIn hfn (hassign _ x W _ ⟨_, run_beginRound hl (by rw [hrec]), ?_⟩)⟩
      have hl2 : (W.putObj (w.heap.size + 1) (.loop { rec .ready none with state := .busy })).heap[w.heap.size + 1]? = some (.loop { rec .ready none with state := .busy }) := World.putObj_heap_same hlt
      have hk2 : (W.putObj (w.heap.size + 1) (.loop { rec .ready none with state := .busy })).heap[w.heap.size]? = some (.deferred (some [])) := (World.putObj_heap_other (by omega)).trans hk
      have hB1 : ∀ B ∈ Bs, B < w.heap.size + 1 := fun B hB => Nat.lt_succ_of_lt (hBs B hB)
      have hw2 : KeepI n₀ Bs W (W.putObj (w.heap.size + 1) (.loop { rec .ready none with state := .busy })) := keepI_putObj _ (by omega) hB1
      have hi2 : I pre (W.putObj (w.heap.size + 1) (.loop { rec .ready none with state := .busy })) := (hI pre).putObj _ hi (by omega) hl rfl
      refine wpIn_mono (hbody _ pre x rest _ hx (by simpa using hz) hi2) ?_
      have fin : ∀ (jump : Option Code) (W3 : World), Tame n₀ Bs (W.putObj (w.heap.size + 1) (.loop { rec .ready none with state := .busy })) W3 →
          (Instr.endRound (w.heap.size + 1) jump).run P W3 = .ok (.bool jump.isNone) (W3.putObj (w.heap.size + 1) (.loop (rec (if jump.isNone then .ready else .done) jump))) ∧
          W3.heap[w.heap.size + 1]? = some (.loop { rec .ready none with state := .busy }) ∧
          (W3.putObj (w.heap.size + 1) (.loop (rec (if jump.isNone then .ready else .done) jump))).heap[w.heap.size + 1]? = some (.loop (rec (if jump.isNone then .ready else .done) jump)) ∧
          (W3.putObj (w.heap.size + 1) (.loop (rec (if jump.isNone then .ready else .done) jump))).heap[w.heap.size]? = some (.deferred (some [])) := fun jump W3 hk3 => by
        have hl3 := hk3.others hl2 rfl
        have := run_endRound (P := P) jump hl3
        rw [hrec] at this ⊢
        exact ⟨this, by rw [hrec] at hl3; exact hl3, World.putObj_heap_same (Array.getElem?_eq_some_iff.1 hl3).1, (World.putObj_heap_other (by omega)).trans (hk3.others hk2 rfl)⟩
      rintro e a3 W3 hp
      cases e with
      | normal =>
        obtain ⟨hk3, hi3⟩ := hp
        obtain ⟨hr, hl3, hl4, hk4⟩ := fin none W3 hk3
        have hs3 := hk3.size
        simp only [World.putObj_size] at hs3
        exact ⟨_, _, hr, .inl ⟨rfl, ⟨by simp only [World.putObj_size]; omega, (hI _).putObj _ hi3 (by omega) hl3 rfl, hl4, hk4⟩, (hw2.trans hk3.keep).trans (keepI_putObj _ (by omega) hB1)⟩⟩
      | ret =>
        obtain ⟨hk3, hi3⟩ := hp
        obtain ⟨hr, hl3, hl4, hk4⟩ := fin (some .ret) W3 hk3
        exact ⟨_, _, hr, .inr ⟨rfl, .ret, (hIx _).putObj _ hi3 (by omega) hl3 rfl, hl4, hk4⟩⟩
      | exit id =>
        obtain ⟨hk3, hi3⟩ := hp
        obtain ⟨hr, hl3, hl4, hk4⟩ := fin (some (.exit id)) W3 hk3
        exact ⟨_, _, hr, .inr ⟨rfl, .exit id, (hIx _).putObj _ hi3 (by omega) hl3 rfl, hl4, hk4⟩⟩
      | goto t =>
        obtain ⟨hk3, hi3⟩ := hp
        obtain ⟨hr, hl3, hl4, hk4⟩ := fin (some (.goto t)) W3 hk3
        exact ⟨_, _, hr, .inr ⟨rfl, .goto t, (hIx _).putObj _ hi3 (by omega) hl3 rfl, hl4, hk4⟩⟩
      | panic ch => exact hp.elim
      | outgrown => exact hp.elim
    · rintro e W2 ⟨⟨v, rfl⟩, (⟨_, hi, hl, hk⟩ | ⟨c, hi, hl, hk⟩)⟩
      · exact ⟨none, _, by have := run_endLoop (P := P) hl (by rw [hrec]; simp); rw [hrec] at this; exact this, hdone _ _ (Nat.le_refl _) ((hI _).putObj _ hi (by omega) hl rfl) ((World.putObj_heap_other (by omega)).trans hk)⟩
      · exact ⟨some c, _, by have := run_endLoop (P := P) hl (by rw [hrec]; simp); rw [hrec] at this; exact this, wpIn_wide.2 (hstop _ c _ (Nat.le_refl _) ((hIx c).putObj _ hi (by omega) hl rfl) ((World.putObj_heap_other (by omega)).trans hk))⟩
end
theorem bcell_ {W w1 : World} (hb : Below W.heap.size W w1) : (∀ b o, b < W.heap.size → w1.cell? ⟨b, o, none⟩ = W.cell? ⟨b, o, none⟩) ∧ (∀ b o, b < W.heap.size → w1.frozen? ⟨b, o, none⟩ = W.frozen? ⟨b, o, none⟩) :=
  ⟨fun b o h => hb.cell (p := ⟨b, o, none⟩) h, fun b o h => hb.frozen (p := ⟨b, o, none⟩) h⟩
theorem KeepI.weak {n₀ : Nat} {Bs Cs : List Nat} {A B : World} (h : KeepI n₀ Bs A B) (hs : ∀ b ∈ Cs, b ∈ Bs) : KeepI n₀ Cs A B := ⟨h.size, fun k hk hm => h.block k hk (hm.imp id (hs k))⟩
theorem KeepI.setCell {n₀ : Nat} {Bs : List Nat} {A B : World} (h : KeepI n₀ Bs A B) {p : Addr} (v : Value) (h1 : n₀ ≤ p.block) (h2 : p.block ∉ Bs) : KeepI n₀ Bs A (B.setCell p v) :=
  ⟨by simpa [World.setCell] using h.size, fun k hk hm => (Below.heap_setCell B p v k (fun e => by
    subst e
    rcases hm with hm | hm
    · omega
    · exact h2 hm)).trans (h.block k hk hm)⟩
end Go.Proofs.Ytkaiibipcnlaiaa.Hand
/- General laws: arrays of two numbers compared. No condition of its own. -/
namespace Go.Proofs.Ytkaiibipcnlaiaa.Hand
open Go Go.RowKit Go.Proofs.YtkaiibipcnlaiaaW.PrintWords Go.Proofs.YtkaiibipcnlaiaaW.PrintLast
theorem eqArr2 {P : Program} {t e : TypeId} {k : IntKind} (hu : P.underlying t = some (.array 2 e)) (he : P.underlying e = some (.int k)) (hi : (P.info? e).isSome = true) (hc : P.cellsOf e = 1)
    (p1 : ∀ (a b : Int) (w : World), (part e #[.int k a, .int k b] 0).run P w = .ok (.int k a) w) (p2 : ∀ (a b : Int) (w : World), (part e #[.int k a, .int k b] 1).run P w = .ok (.int k b) w)
    (d : Nat) (w : World) (x0 y0 x1 y1 : Int) :
    (Op.equalIn (d + 2) t (.agg #[.int k x0, .int k x1]) (.agg #[.int k y0, .int k y1])).run P w = .ok (x0 == y0 && (x1 == y1)) w := by
  obtain ⟨i, hi⟩ := Option.isSome_iff_exists.1 hi
  rw [show d + 2 = (d + 1) + 1 from rfl, run_equalIn_array w (d + 1) _ _ hu hi, hc]
  have q : ∀ (a b : Int) (w : World), (Op.equalIn (d + 1) e (.int k a) (.int k b)).run P w = .ok (a == b) w := fun a b w => run_equalIn_int w d e k k a b he
  rw [show List.range 2 = [0, 1] from rfl]
  simp only [Op.eqItems, Sem.run_bind, Nat.zero_mul, Nat.one_mul, p1, q, Result.andThen_ok]
  cases (x0 == y0) with
  | false => simp
  | true =>
    generalize hb : (x1 == y1) = b
    have q2 := fun w => q x1 y1 w
    rw [hb] at q2
    cases b <;> simp [p2, q2]
end Go.Proofs.Ytkaiibipcnlaiaa.Hand
/- General laws for loops over iterators whose element is laid in memory of its own. No condition of its own. -/
namespace Go.Proofs.Ytkaiibipcnlaiaa.Hand
open Go Go.RowKit Go.Proofs.YtkaiibipcnlaiaaW.PrintWords Go.Proofs.YtkaiibipcnlaiaaW.PrintLast
section
variable {P : Program}
theorem IterS.toM {α : Type} {gf : Nat} {lb : Array Value} {encs : α → Array Value} {n₀ : Nat} {Bs Ms : List Nat} {xs : List α} {w : World} (h : IterS P gf lb encs n₀ Bs xs w) : IterM P gf lb encs n₀ Bs Ms xs w :=
  fun l J Jx W hW hJ hJx _ hY h0 => h l J Jx W hW hJ hJx hY h0

/-- 'for .. := range it' where what is handed over is laid in memory of its own: by the iterator's contract and the walk of one round. -/
theorem wp_rangeA {α : Type} {g : Operand} {ps : Array Tmp} {assign body : Code} {Q : Exit → Act → World → Prop} {a : Act} {w : World}
    {gf : Nat} {lb : Array Value} {encs : α → Array Value} {xs : List α} {n₀ : Nat} {Bs Ms : List Nat}
    (hg : a.eval g = .func (.func gf) #[] lb) (eg : ∀ args w, (callFunc gf args).run P w = .ok (.enter gf args) w)
    (hit : IterM P gf lb encs n₀ Bs Ms xs w) (hMs : ∀ B ∈ Ms, B < w.heap.size) (hn : n₀ ≤ w.heap.size) (hBs : ∀ B ∈ Bs, B < w.heap.size) (hps : ∀ x, (encs x).size = ps.size)
    (I : List α → World → Prop) (Ix : Code → World → Prop) (hI : ∀ s, Bide w.heap.size (I s)) (hIM : ∀ s W p v, I s W → p.block ∈ Ms → I s (W.setCell p v)) (hIx : ∀ c, Bide w.heap.size (Ix c)) (h0 : I [] w) (A : α → Act → World → Prop) (hA : ∀ x a, Bide w.heap.size (A x a))
    (hassign : ∀ (l : Nat) (x : α) (W : World) (K : Act → World → Prop), w.heap.size ≤ W.heap.size → (∀ a1 W1, Below W.heap.size W W1 → A x a1 W1 → K a1 W1) →
      assign.wpIn (RF l) 7 P (Exit.then K (fun _ _ _ => False)) { tmps := (ps.zip (encs x)).foldl (fun t (p, v) => t.setIfInBounds p v) a.tmps, defers := [] } W)
    (hbody : ∀ (l : Nat) (pre : List α) (x : α) (rest : List α) (a1 : Act) (W : World), xs = pre ++ x :: rest → w.heap.size ≤ W.heap.size → I pre W → A x a1 W → body.wpIn (RF l) 7 P (roundQ n₀ Bs I Ix (pre ++ [x]) W) a1 W)
    (hdone : ∀ (D : Nat) (W : World), w.heap.size ≤ D → I xs W → W.heap[D]? = some (.deferred (some [])) → Q .normal { a with defers := { target := .collected D, args := #[] } :: a.defers } W)
    (hstop : ∀ (D : Nat) (c : Code) (W : World), w.heap.size ≤ D → Ix c W → W.heap[D]? = some (.deferred (some [])) → c.wp P Q { a with defers := { target := .collected D, args := #[] } :: a.defers } W) :
    (Code.rangeFunc g ps assign body).wp P Q a w := by
  refine (wpIn_wide (n := 9)).1 (wpIn_rangeFunc ?_)
  intro fn hfn
  obtain ⟨rec, hrec⟩ : ∃ rec : LoopState → Option Code → Loop, rec = fun st pe => { state := st, pending := pe, fn, tmps := a.tmps, params := ps, assign, body, defers := w.heap.size } := ⟨_, rfl⟩
  obtain ⟨W1, hW1⟩ : ∃ W1, (w.alloc (.deferred (some []))).alloc (.loop (rec .ready none)) = W1 := ⟨_, rfl⟩
  have hL1 : W1.heap[w.heap.size + 1]? = some (.loop (rec .ready none)) := by
    rw [← hW1]
    have := World.alloc_heap_new (w.alloc (.deferred (some []))) (.loop (rec .ready none))
    rwa [World.size_alloc] at this
  have hK1 : W1.heap[w.heap.size]? = some (.deferred (some [])) := by
    rw [← hW1]
    exact (Below.heap_alloc _ _ _ (by simp)).trans (World.alloc_heap_new w _)
  have hb1 : Below w.heap.size w W1 := by
    rw [← hW1]
    exact ((Below.refl _ w).alloc (Nat.le_refl _) _).alloc (by simp) _
  have hI1 : I [] W1 := (hI []).of_below h0 hb1
  refine ⟨w.heap.size + 1, [{ target := .collected w.heap.size, args := #[] }], W1, { target := .fn (.func gf) lb, args := #[.func (.yield (w.heap.size + 1)) #[] #[]] }, W1, gf,
    #[.func (.yield (w.heap.size + 1)) #[] #[]] ++ lb, W1, ?_, ?_, ?_, ?_, fun h => by simp [Fence.wide] at h, ?_⟩
  · rw [← hW1, hrec]
    exact run_enterLoop_outer _ _ _ _ _
  · simp only [resolve, hg]
    simp [go_sem]
  · intro f' _
    trivial
  · simp [invoke, go_sem, eg]
  · refine (hit (w.heap.size + 1)
      (fun pre W => w.heap.size ≤ W.heap.size ∧ I pre W ∧ W.heap[w.heap.size + 1]? = some (.loop (rec .ready none)) ∧ W.heap[w.heap.size]? = some (.deferred (some [])))
      (fun W => ∃ c, Ix c W ∧ W.heap[w.heap.size + 1]? = some (.loop (rec .done (some c))) ∧ W.heap[w.heap.size]? = some (.deferred (some [])))
      W1 hb1 ?_ ?_ ?_ ?_ ⟨hb1.size, hI1, hL1, hK1⟩).mono ?_
    · rintro pre A B ⟨hz, hi, hl, hk⟩ hb
      exact ⟨Nat.le_trans hz hb.size, (hI pre).of_below hi hb, (hb.block _ (Array.getElem?_eq_some_iff.1 hl).1).trans hl, (hb.block _ (Array.getElem?_eq_some_iff.1 hk).1).trans hk⟩
    · rintro A B ⟨c, hi, hl, hk⟩ hb
      exact ⟨c, (hIx c).of_below hi hb, (hb.block _ (Array.getElem?_eq_some_iff.1 hl).1).trans hl, (hb.block _ (Array.getElem?_eq_some_iff.1 hk).1).trans hk⟩
    · rintro pre W p v ⟨hz, hi, hl, hk⟩ hp
      have hlt := hMs _ hp
      exact ⟨by simpa [World.setCell] using hz, hIM pre W p v hi hp, (Below.heap_setCell W p v _ (by omega)).trans hl, (Below.heap_setCell W p v _ (by omega)).trans hk⟩
    · rintro pre x rest W hx ⟨hz, hi, hl, hk⟩
      have hlt : w.heap.size + 1 < W.heap.size := (Array.getElem?_eq_some_iff.1 hl).1
      have hy := run_yield (P := P) (args := encs x) hl (by rw [hrec]; exact hps x)
      rw [hrec] at hy
      refine ⟨fn, _, assign, body, hy, roundIn_of_wpIn hfn (hassign _ x W _ hz fun a1 W' hbA hA1 => ?_)⟩
      have hzA : w.heap.size ≤ W'.heap.size := Nat.le_trans hz hbA.size
      have hiA : I pre W' := (hI pre).of_below hi hbA
      have hlA : W'.heap[w.heap.size + 1]? = some (.loop (rec .ready none)) := (hbA.block _ hlt).trans hl
      have hkA : W'.heap[w.heap.size]? = some (.deferred (some [])) := (hbA.block _ (by omega)).trans hk
      have hKA : KeepI n₀ Bs W W' := KeepI.of_below hbA
      clear hz hi hl hk hbA
      have hltA : w.heap.size + 1 < W'.heap.size := (Array.getElem?_eq_some_iff.1 hlA).1
      refine ⟨_, run_beginRound hlA (by rw [hrec]), ?_⟩
      have hl2 : (W'.putObj (w.heap.size + 1) (.loop { rec .ready none with state := .busy })).heap[w.heap.size + 1]? = some (.loop { rec .ready none with state := .busy }) := World.putObj_heap_same hltA
      have hk2 : (W'.putObj (w.heap.size + 1) (.loop { rec .ready none with state := .busy })).heap[w.heap.size]? = some (.deferred (some [])) := (World.putObj_heap_other (by omega)).trans hkA
      have hB1 : ∀ B ∈ Bs, B < w.heap.size + 1 := fun B hB => Nat.lt_succ_of_lt (hBs B hB)
      have hw2 : KeepI n₀ Bs W' (W'.putObj (w.heap.size + 1) (.loop { rec .ready none with state := .busy })) := keepI_putObj _ (by omega) hB1
      have hi2 : I pre (W'.putObj (w.heap.size + 1) (.loop { rec .ready none with state := .busy })) := (hI pre).putObj _ hiA (by omega) hlA rfl
      refine wpIn_mono (hbody _ pre x rest a1 _ hx (by simpa using hzA) hi2 ((hA x a1).putObj _ hA1 (by omega) hlA rfl)) ?_
      have fin : ∀ (jump : Option Code) (W3 : World), Tame n₀ Bs (W'.putObj (w.heap.size + 1) (.loop { rec .ready none with state := .busy })) W3 →
          (Instr.endRound (w.heap.size + 1) jump).run P W3 = .ok (.bool jump.isNone) (W3.putObj (w.heap.size + 1) (.loop (rec (if jump.isNone then .ready else .done) jump))) ∧
          W3.heap[w.heap.size + 1]? = some (.loop { rec .ready none with state := .busy }) ∧
          (W3.putObj (w.heap.size + 1) (.loop (rec (if jump.isNone then .ready else .done) jump))).heap[w.heap.size + 1]? = some (.loop (rec (if jump.isNone then .ready else .done) jump)) ∧
          (W3.putObj (w.heap.size + 1) (.loop (rec (if jump.isNone then .ready else .done) jump))).heap[w.heap.size]? = some (.deferred (some [])) := fun jump W3 hk3 => by
        have hl3 := hk3.others hl2 rfl
        have := run_endRound (P := P) jump hl3
        rw [hrec] at this ⊢
        exact ⟨this, by rw [hrec] at hl3; exact hl3, World.putObj_heap_same (Array.getElem?_eq_some_iff.1 hl3).1, (World.putObj_heap_other (by omega)).trans (hk3.others hk2 rfl)⟩
      rintro e a3 W3 hp
      cases e with
      | normal =>
        obtain ⟨hk3, hi3⟩ := hp
        obtain ⟨hr, hl3, hl4, hk4⟩ := fin none W3 hk3
        have hs3 := hk3.size
        simp only [World.putObj_size] at hs3
        exact ⟨_, _, hr, .inl ⟨rfl, ⟨by simp only [World.putObj_size]; omega, (hI _).putObj _ hi3 (by omega) hl3 rfl, hl4, hk4⟩, (hKA.trans (hw2.trans hk3.keep)).trans (keepI_putObj _ (by omega) hB1)⟩⟩
      | ret =>
        obtain ⟨hk3, hi3⟩ := hp
        obtain ⟨hr, hl3, hl4, hk4⟩ := fin (some .ret) W3 hk3
        exact ⟨_, _, hr, .inr ⟨rfl, .ret, (hIx _).putObj _ hi3 (by omega) hl3 rfl, hl4, hk4⟩⟩
      | exit id =>
        obtain ⟨hk3, hi3⟩ := hp
        obtain ⟨hr, hl3, hl4, hk4⟩ := fin (some (.exit id)) W3 hk3
        exact ⟨_, _, hr, .inr ⟨rfl, .exit id, (hIx _).putObj _ hi3 (by omega) hl3 rfl, hl4, hk4⟩⟩
      | goto t =>
        obtain ⟨hk3, hi3⟩ := hp
        obtain ⟨hr, hl3, hl4, hk4⟩ := fin (some (.goto t)) W3 hk3
        exact ⟨_, _, hr, .inr ⟨rfl, .goto t, (hIx _).putObj _ hi3 (by omega) hl3 rfl, hl4, hk4⟩⟩
      | panic ch => exact hp.elim
      | outgrown => exact hp.elim
    · rintro e W2 ⟨⟨v, rfl⟩, (⟨_, hi, hl, hk⟩ | ⟨c, hi, hl, hk⟩)⟩
      · exact ⟨none, _, by have := run_endLoop (P := P) hl (by rw [hrec]; simp); rw [hrec] at this; exact this, hdone _ _ (Nat.le_refl _) ((hI _).putObj _ hi (by omega) hl rfl) ((World.putObj_heap_other (by omega)).trans hk)⟩
      · exact ⟨some c, _, by have := run_endLoop (P := P) hl (by rw [hrec]; simp); rw [hrec] at this; exact this, wpIn_wide.2 (hstop _ c _ (Nat.le_refl _) ((hIx c).putObj _ hi (by omega) hl rfl) ((World.putObj_heap_other (by omega)).trans hk))⟩
end
end Go.Proofs.Ytkaiibipcnlaiaa.Hand
/- General laws: a region that draws its order, inside a fence, told in phases: what only reads, then one operation, then what only reads, and so on. No condition of its own. -/
namespace Go.Proofs.Ytkaiibipcnlaiaa.Hand
open Go Go.RowKit Go.Proofs.YtkaiibipcnlaiaaW.PrintWords Go.Proofs.YtkaiibipcnlaiaaW.PrintLast
section
variable {P : Program} {ops : Array Oper} {md : Region.Mode} {w : World}
/-- Each of what lies between waits to be waited for, up to the one operation; and whatever stands behind that one waits for it, or for what stands behind it. -/
def sinkPB (md : Region.Mode) (ops : Array Oper) (k p : Nat) : Bool := (List.range p).all fun i => decide (i < k) || (List.range (p + 1)).any fun j => decide (i < j) && Region.waitsFor md ops j i
def chainPB (md : Region.Mode) (ops : Array Oper) (p : Nat) : Bool := (List.range ops.size).all fun t => decide (t ≤ p) || (List.range t).any fun u => decide (p ≤ u) && Region.waitsFor md ops t u
theorem phase_waits {k p : Nat} {listed : Array Bool} (hs : sinkPB md ops k p = true) (hc : chainPB md ops p = true) (inv : HeadInv md ops p listed) (hp : p < ops.size) :
    ∀ (d i : Nat), p - i = d → k ≤ i → i < p → listed.getD i true = false → ∀ t, p ≤ t → t ∉ Region.ready md ops listed := by
  intro d
  induction d using Nat.strongRecOn with
  | _ d ih =>
    intro i hd hki hi hun t ht hr
    obtain ⟨_, ot, hot, hall⟩ := mem_ready.1 hr
    have htlt : t < ops.size := (Array.getElem?_eq_some_iff.1 hot).1
    by_cases htp : t = p
    · subst htp
      have h1 := List.all_eq_true.1 hs i (List.mem_range.2 hi)
      simp only [Bool.or_eq_true, decide_eq_true_eq] at h1
      rcases h1 with h1 | h1
      · omega
      · obtain ⟨j, hj, hj2⟩ := List.any_eq_true.1 h1
        simp only [Bool.and_eq_true, decide_eq_true_eq] at hj2
        obtain ⟨oj, hoj, e, he, hb, hon⟩ := Region.waitsFor_spec hj2.2
        have hjle : j ≤ t := by have := List.mem_range.1 hj; omega
        by_cases hjt : j = t
        · subst hjt
          have : oj = ot := Option.some.inj (hoj.symm.trans hot)
          subst this
          have h2 := hall e he hb
          rw [hon, getD_both hun] at h2
          cases h2
        · cases hl : listed.getD j false with
          | true =>
            have h2 := inv.closed j oj hoj hl e he hb
            rw [hon, getD_both hun] at h2
            cases h2
          | false =>
            have hjs : j < listed.size := by rw [inv.size]; omega
            exact ih (t - j) (by omega) j rfl (by omega) (by omega) (getD_in hjs hl) t (Nat.le_refl _) hr
    · have h1 := List.all_eq_true.1 hc t (List.mem_range.2 htlt)
      simp only [Bool.or_eq_true, decide_eq_true_eq] at h1
      rcases h1 with h1 | h1
      · omega
      · obtain ⟨u, hu, hu2⟩ := List.any_eq_true.1 h1
        simp only [Bool.and_eq_true, decide_eq_true_eq] at hu2
        have hut := List.mem_range.1 hu
        obtain ⟨o', ho', e, he, hb, hon⟩ := Region.waitsFor_spec hu2.2
        have : o' = ot := Option.some.inj (ho'.symm.trans hot)
        subst this
        have h2 := hall e he hb
        rw [hon, getD_both (inv.tail u hu2.1 (by omega))] at h2
        cases h2
theorem phase_first {k p i : Nat} {oi : Oper} {v : Value} {L : Array Bool → Act → Prop} (hi : ops[i]? = some oi) (hsel : ∀ (j : Nat) (o : Oper) cs b, ops[j]? = some o → o.op ≠ .select cs b)
    (hs : sinkPB md ops k p = true) (hc : chainPB md ops p = true) (hp : p < ops.size) (hki : k ≤ i) (hip : i < p) (hdone : ∀ listed a, L listed a → ∀ j ∈ Region.ready md ops listed, p ≤ j) :
    ∀ (f : Nat) (listed : Array Bool) (a : Act), HeadInv md ops p listed →
      (∀ j oj, ops[j]? = some oj → j ≠ i → listed.getD j true = false → (∀ e ∈ oj.after, Region.binds md e = true → e.on ≠ i) → oi.apart ops oj = true) →
      i ∈ Region.ready md ops listed → YieldsAt P ops w oi v a →
      wpAnyL P md ops w p L f (listed.setIfInBounds i true) (a.put oi.dst v) → wpAnyL P md ops w p L (f + 1) listed a := by
  intro f
  induction f with
  | zero =>
    intro listed a inv _ hr hy H
    have hun := (mem_ready.1 hr).1
    refine ⟨fun h => (by rw [h] at hr; cases hr), fun j hj => ?_⟩
    have hjp : j < p := by
      rcases Nat.lt_or_ge j p with h | h
      · exact h
      · exact absurd hj (phase_waits hs hc inv hp _ i rfl hki hip hun j h)
    refine ⟨hjp, ?_⟩
    by_cases hji : j = i
    · subst hji; exact hy.stOp hi H
    · have := hdone _ _ H j (ready_mono hj hji)
      omega
  | succ f ih =>
    intro listed a inv hfree hr hy H
    have hun := (mem_ready.1 hr).1
    refine ⟨fun h => (by rw [h] at hr; cases hr), fun j hj => ?_⟩
    have hjp : j < p := by
      rcases Nat.lt_or_ge j p with h | h
      · exact h
      · exact absurd hj (phase_waits hs hc inv hp _ i rfl hki hip hun j h)
    refine ⟨hjp, ?_⟩
    by_cases hji : j = i
    · subst hji; exact hy.stOp hi H
    · have h1 := (H.2 j (ready_mono hj hji)).2
      obtain ⟨hjun, oj, hoj, hall⟩ := mem_ready.1 hj
      have hnot : ∀ e ∈ oj.after, Region.binds md e = true → e.on ≠ i := fun e he hb heq => by
        have h1 := hall e he hb
        rw [heq, getD_both hun] at h1
        cases h1
      have h2 := stOp_put hoj (hfree j oj hoj hji hjun hnot) (fun cs b => hsel i oi cs b hi) (fun cs b => hsel j oj cs b hoj) hy h1
      have hfree' : ∀ q ok, ops[q]? = some ok → q ≠ i → (listed.setIfInBounds j true).getD q true = false →
          (∀ e ∈ ok.after, Region.binds md e = true → e.on ≠ i) → oi.apart ops ok = true := fun q ok hq hqi hunq hno => by
        refine hfree q ok hq hqi ?_ hno
        by_cases hjq : j = q
        · subst hjq; exact hjun
        · rw [getD_set_ne true hjq] at hunq; exact hunq
      refine stOp_mono (fun a' h3 => ih (listed.setIfInBounds j true) a' (inv.set hj hjp) hfree' (ready_mono hr (Ne.symm hji)) h3.1 ?_) h2
      rw [Array.setIfInBounds_comm _ _ hji]
      exact h3.2
/-- What has come up when those from a number on have. -/
def setFrom : Nat → Nat → Array Bool → Array Bool
  | _, 0, listed => listed
  | i, n + 1, listed => setFrom (i + 1) n (listed.setIfInBounds i true)
theorem setFrom_add : ∀ (a b i : Nat) (x : Array Bool), setFrom i (a + b) x = setFrom (i + a) b (setFrom i a x)
  | 0, b, i, x => by rw [Nat.zero_add]; rfl
  | a + 1, b, i, x => by
    rw [Nat.add_right_comm]
    simp only [setFrom]
    rw [setFrom_add a b (i + 1), Nat.add_right_comm i 1 a]
    rfl
def upTo (ops : Array Oper) (k : Nat) : Array Bool := setFrom 0 k (Array.replicate ops.size false)
theorem upTo_add (k m : Nat) : upTo ops (k + m) = setFrom k m (upTo ops k) := by
  unfold upTo
  rw [setFrom_add, Nat.zero_add]
def lexP (md : Region.Mode) (ops : Array Oper) (p : Nat) : Nat → Nat → Array Bool → Bool
  | 0, _, listed => decide (Region.ready md ops listed = [p])
  | n + 1, i, listed => (Region.ready md ops listed).contains i && Region.free md ops listed i && lexP md ops p n (i + 1) (listed.setIfInBounds i true)
def phaseB (md : Region.Mode) (ops : Array Oper) (k p : Nat) : Bool :=
  Region.noSelect ops && decide (k ≤ p) && decide (p < ops.size) && sinkPB md ops k p && chainPB md ops p && decide ((upTo ops k).size = ops.size) && Region.closedB md ops (upTo ops k) &&
    ((List.range ops.size).all fun t => decide (t < p) || !(upTo ops k).getD t true) && lexP md ops p (p - k) k (upTo ops k)
theorem phase_lex {k p : Nat} {Lq : Act → Prop} {target : Array Bool} (hsel : Region.noSelect ops = true) (hs : sinkPB md ops k p = true) (hc : chainPB md ops p = true) (hp : p < ops.size) :
    ∀ (l : List Oper) (i : Nat) (listed : Array Bool) (a : Act), (∀ j, j < l.length → l[j]? = ops[i + j]?) → i + l.length = p → k ≤ i → HeadInv md ops p listed → setFrom i l.length listed = target →
    lexP md ops p l.length i listed = true → wpStill P ops w Lq l a →
    wpAnyL P md ops w p (fun listed' a' => Region.ready md ops listed' = [p] ∧ listed' = target ∧ Lq a') l.length listed a
  | [], i, listed, a, _, _, _, _, ht, hB, h => ⟨by simpa [lexP] using hB, ht, h⟩
  | o :: l, i, listed, a, hl, hk, hki, inv, ht, hB, h => by
    have h0 : ops[i]? = some o := by simpa using (hl 0 (by simp)).symm
    simp only [List.length_cons, lexP, Bool.and_eq_true] at hB
    obtain ⟨⟨hr, hf⟩, hB'⟩ := hB
    have hip : i < p := by simp only [List.length_cons] at hk; omega
    have hr' : i ∈ Region.ready md ops listed := by simpa using hr
    have hst : stOp P ops w i (wpStill P ops w Lq l) a := by unfold stOp; simp only [h0]; exact h
    obtain ⟨v, hy, hK⟩ := yieldsAt_of_stOp h0 hst
    exact phase_first h0 (Region.noSelect_spec hsel) hs hc hp hki hip (fun listed' a' hL => by rw [hL.1]; simp) l.length listed a inv (Region.free_spec h0 hf) hr' hy
      (phase_lex hsel hs hc hp l (i + 1) _ _ (fun j hj => by have := hl (j + 1) (by simp; omega); simpa [Nat.add_assoc, Nat.add_comm 1 j] using this) (by simp only [List.length_cons] at hk; omega) (by omega) (inv.set hr' hip) ht hB' hK)
variable {n : Nat} {Q : Exit → Act → World → Prop}
theorem wpIn_of_still {o : Oper} {a : Act} {K : Act → Prop} {K' : Act → World → Prop} (h : ∀ a, K a → K' a w) (hh : o.still P a w K) : o.wpIn Fence.wide n P a w K' Q := by
  unfold Oper.still at hh
  unfold Oper.wpIn
  refine ⟨fun _ _ => trivial, ?_⟩
  rw [show Fence.wide.round = none from rfl, Oper.semAt_none]
  generalize (execOp a.eval o).run P w = r at *
  cases r with
  | ok x w' =>
    cases x <;> simp only [Oper.stillUpon] at hh <;> simp only [Oper.uponIn]
    case enter f args =>
      obtain ⟨rfl, v, hc, hn⟩ := hh
      exact ⟨fun h => by simp [Fence.wide] at h, (callsIn_wide.2 hc).mono fun e w'' ⟨he, hw⟩ => by subst he; subst hw; exact h _ hn⟩
    all_goals (obtain ⟨rfl, h2⟩ := hh; exact h _ h2)
  | halt x w' => simp only [Oper.stillUpon] at hh
theorem opIn_of_stOp {i : Nat} {a : Act} {K : Act → Prop} {K' : Act → World → Prop} (h : ∀ a, K a → K' a w) (hh : stOp P ops w i K a) : wpOpIn Fence.wide n P ops Q i K' a w := by
  unfold stOp at hh
  unfold wpOpIn
  split
  · rename_i ho; simp only [ho] at hh; exact h _ hh
  · rename_i o ho
    simp only [ho] at hh
    split
    · rename_i hw; simp only [hw, if_true] at hh; exact wpIn_of_still h hh
    · rename_i hw; simp only [hw] at hh; exact ⟨fun _ _ => trivial, h _ hh⟩
theorem anyIn_of_head {p g : Nat} {L : Array Bool → Act → Prop} (hL : ∀ listed a, L listed a → wpAnyIn Fence.wide n P md ops Q g listed a w) :
    ∀ (f : Nat) (listed : Array Bool) (a : Act), wpAnyL P md ops w p L f listed a → wpAnyIn Fence.wide n P md ops Q (f + g) listed a w
  | 0, listed, a, h => by rw [Nat.zero_add]; exact hL _ _ h
  | f + 1, listed, a, h => by
    rw [show f + 1 + g = (f + g) + 1 by omega]
    exact ⟨fun h0 => absurd h0 h.1, fun i hi => opIn_of_stOp (fun a' h' => anyIn_of_head hL f _ a' h') (h.2 i hi).2⟩
/-- One phase: those from number k on, up to number p, only read; then number p. -/
theorem phase_in {l : List Oper} {a : Act} (k p : Nat) (hB : phaseB .any l.toArray k p = true)
    (h : wpStill P l.toArray w (fun a' => wpOpIn Fence.wide n P l.toArray Q p (fun a2 w2 => wpAnyIn Fence.wide n P .any l.toArray Q (l.length - (p + 1)) (upTo l.toArray (p + 1)) a2 w2) a' w) ((l.drop k).take (p - k)) a) :
    wpAnyIn Fence.wide n P .any l.toArray Q (l.length - k) (upTo l.toArray k) a w := by
  simp only [phaseB, Bool.and_eq_true, decide_eq_true_eq] at hB
  obtain ⟨⟨⟨⟨⟨⟨⟨⟨hsel, hkp⟩, hp⟩, hs⟩, hc⟩, hsz⟩, hcl⟩, htl⟩, hlex⟩ := hB
  have hp' : p < l.length := by simpa using hp
  have hlen : ((l.drop k).take (p - k)).length = p - k := by simp; omega
  have inv : HeadInv .any l.toArray p (upTo l.toArray k) := ⟨hsz, Region.closedB_spec hcl, fun t h1 h2 => by
    have := List.all_eq_true.1 htl t (List.mem_range.2 h2)
    simp only [Bool.or_eq_true, decide_eq_true_eq, Bool.not_eq_true'] at this
    rcases this with h3 | h3
    · omega
    · exact h3⟩
  have H := phase_lex (P := P) (w := w) (md := .any) (target := upTo l.toArray p) hsel hs hc hp ((l.drop k).take (p - k)) k (upTo l.toArray k) a (fun j hj => by
    rw [hlen] at hj
    rw [List.getElem?_take_of_lt hj, List.getElem?_drop]; simp) (by rw [hlen]; omega) (Nat.le_refl _) inv (by rw [hlen, ← upTo_add]; congr 1; omega) (by rw [hlen]; exact hlex) h
  have g := anyIn_of_head (n := n) (Q := Q) (g := l.length - (p + 1) + 1) (fun listed a' hL => by
    obtain ⟨h1, rfl, h3⟩ := hL
    refine wpAnyIn_all h1 (by simp) (fun i hi => ?_)
    obtain rfl : i = p := by simpa using hi
    have e : (upTo l.toArray i).setIfInBounds i true = upTo l.toArray (i + 1) := (upTo_add i 1).symm
    rw [e]
    exact h3) _ _ _ H
  rw [hlen] at g
  rwa [show p - k + (l.length - (p + 1) + 1) = l.length - k by omega] at g
theorem phase_region {l : List Oper} {a : Act} {id : Nat} (hm : P.follows .mixedOrders = true) (h : wpAnyIn Fence.wide n P .any l.toArray Q (l.length - 0) (upTo l.toArray 0) a w.drew) : (Code.region id l.toArray true).wpIn Fence.wide n P Q a w := by
  refine wpIn_region_any hm ?_
  have e : upTo l.toArray 0 = Array.replicate l.toArray.size false := rfl
  rw [e] at h
  simpa using h
theorem phase_done {l : List Oper} {a : Act} (k : Nat) (hr : Region.ready .any l.toArray (upTo l.toArray k) = []) (h : Q .normal a w) : wpAnyIn Fence.wide n P .any l.toArray Q (l.length - k) (upTo l.toArray k) a w := wpAnyIn_done hr h _
/-- The one operation, where it is run; and where its guard passes it over. -/
theorem phase_op {i : Nat} {o : Oper} {K : Act → World → Prop} {a : Act} (ho : ops[i]? = some o) (hw : Region.wanted o (yielded ops a.tmps) = true) (h : Oper.wpIn Fence.wide n P o a w K Q) : wpOpIn Fence.wide n P ops Q i K a w := by
  unfold wpOpIn
  simp only [ho, hw, if_true]
  exact h
theorem phase_skip {i : Nat} {o : Oper} {K : Act → World → Prop} {a : Act} (ho : ops[i]? = some o) (hw : Region.wanted o (yielded ops a.tmps) = false) (h : K (a.put o.dst undef) w) : wpOpIn Fence.wide n P ops Q i K a w := by
  unfold wpOpIn
  simp only [ho, hw]
  exact ⟨fun _ _ => trivial, h⟩
end
end Go.Proofs.Ytkaiibipcnlaiaa.Hand
/- General laws for loops over iterators that lay and write boxes of their own. No condition of its own. -/
namespace Go.Proofs.Ytkaiibipcnlaiaa.Hand
open Go Go.RowKit Go.Proofs.YtkaiibipcnlaiaaW.PrintWords Go.Proofs.YtkaiibipcnlaiaaW.PrintLast
section
variable {P : Program}
/-- From a block on, all that are not of a set lie as they lay. -/
structure KeepZ (z : Nat) (C : Nat → Prop) (W W' : World) : Prop where
  size : W.heap.size ≤ W'.heap.size
  block : ∀ k, k < W.heap.size → z ≤ k → ¬ C k → W'.heap[k]? = W.heap[k]?
theorem KeepZ.trans {z : Nat} {C : Nat → Prop} {A B D : World} (h : KeepZ z C A B) (k : KeepZ z C B D) : KeepZ z C A D :=
  ⟨Nat.le_trans h.size k.size, fun i hi hz hc => (k.block i (Nat.lt_of_lt_of_le hi h.size) hz hc).trans (h.block i hi hz hc)⟩
theorem KeepZ.of_below {z : Nat} {C : Nat → Prop} {A B : World} (h : Below A.heap.size A B) : KeepZ z C A B := ⟨h.size, fun k hk _ _ => h.block k hk⟩
theorem keepZ_putObj {z : Nat} {C : Nat → Prop} {W : World} {l : Nat} (o : Obj) (h : l < z) : KeepZ z C W (W.putObj l o) :=
  ⟨by simp, fun k _ hz _ => World.putObj_heap_other (fun e => by omega)⟩
/-- The iterator's contract, for one that lays boxes of its own and writes them: function gf with what it has captured hands the elements of xs, in order, to yield; it stops where yield says no. C: the blocks that the caller writes. -/
def IterC {α : Type} (P : Program) (gf : Nat) (lb : Array Value) (encs : α → Array Value) (n₀ : Nat) (Bs : List Nat) (xs : List α) (w : World) : Prop :=
  ∀ (l : Nat) (J : (Nat → Prop) → List α → World → Prop) (Jx : World → Prop) (W : World), Below w.heap.size w W →
    (∀ C pre W1 W2, J C pre W1 → Below W1.heap.size W1 W2 → J C pre W2) → (∀ W1 W2, Jx W1 → Below W1.heap.size W1 W2 → Jx W2) →
    (∀ C pre W1 p v, J C pre W1 → W.heap.size ≤ p.block → ¬ C p.block → J C pre (W1.setCell p v)) →
    (∀ C pre x rest W1, xs = pre ++ x :: rest → J C pre W1 → YieldAt Fence.wide 7 P l (encs x) W1 fun e W2 =>
      (e = .returned (.bool true) ∧ (∃ C' : Nat → Prop, J C' (pre ++ [x]) W2 ∧ ∀ k, C' k → C k ∨ W1.heap.size ≤ k ∧ k < W2.heap.size) ∧ KeepI n₀ Bs W1 W2 ∧ KeepZ W.heap.size C W1 W2) ∨ (e = .returned (.bool false) ∧ Jx W2)) →
    ∀ C0 : Nat → Prop, (∀ k, C0 k → k < W.heap.size) → J C0 [] W →
    CallsIn Fence.wide 8 P gf (#[.func (.yield l) #[] #[]] ++ lb) W fun e W' => (∃ v, e = .returned v) ∧ ((∃ C, J C xs W') ∨ Jx W')
/-- 'for .. := range it' where what is handed over is laid in memory of its own, and the iterator has boxes of its own: by the iterator's contract and the walk of one round. -/
theorem wp_rangeC {α : Type} {g : Operand} {ps : Array Tmp} {assign body : Code} {Q : Exit → Act → World → Prop} {a : Act} {w : World}
    {gf : Nat} {lb : Array Value} {encs : α → Array Value} {xs : List α} {n₀ : Nat} {Bs : List Nat}
    (hg : a.eval g = .func (.func gf) #[] lb) (eg : ∀ args w, (callFunc gf args).run P w = .ok (.enter gf args) w)
    (hit : IterC P gf lb encs n₀ Bs xs w) (hn : n₀ ≤ w.heap.size) (hBs : ∀ B ∈ Bs, B < w.heap.size) (hps : ∀ x, (encs x).size = ps.size)
    (I : (Nat → Prop) → List α → World → Prop) (Ix : Code → World → Prop) (hI : ∀ C s, Bide w.heap.size (I C s)) (hIM : ∀ C s W p v, I C s W → w.heap.size + 2 ≤ p.block → ¬ C p.block → I C s (W.setCell p v)) (hIx : ∀ c, Bide w.heap.size (Ix c)) (C0 : Nat → Prop) (hC0 : ∀ k, C0 k → k < w.heap.size) (h0 : I C0 [] w) (A : α → Act → World → Prop) (hA : ∀ x a, Bide w.heap.size (A x a))
    (hassign : ∀ (l : Nat) (x : α) (W : World) (K : Act → World → Prop), w.heap.size ≤ W.heap.size → (∀ a1 W1, Below W.heap.size W W1 → A x a1 W1 → K a1 W1) →
      assign.wpIn (RF l) 7 P (Exit.then K (fun _ _ _ => False)) { tmps := (ps.zip (encs x)).foldl (fun t (p, v) => t.setIfInBounds p v) a.tmps, defers := [] } W)
    (hbody : ∀ (l : Nat) (C : Nat → Prop) (pre : List α) (x : α) (rest : List α) (a1 : Act) (W : World), xs = pre ++ x :: rest → w.heap.size ≤ W.heap.size → I C pre W → A x a1 W → body.wpIn (RF l) 7 P (roundQ n₀ Bs (fun s W' => KeepZ (w.heap.size + 2) C W W' ∧ ∃ C' : Nat → Prop, I C' s W' ∧ ∀ k, C' k → C k ∨ W.heap.size ≤ k ∧ k < W'.heap.size) Ix (pre ++ [x]) W) a1 W)
    (hdone : ∀ (D : Nat) (C : Nat → Prop) (W : World), w.heap.size ≤ D → I C xs W → W.heap[D]? = some (.deferred (some [])) → Q .normal { a with defers := { target := .collected D, args := #[] } :: a.defers } W)
    (hstop : ∀ (D : Nat) (c : Code) (W : World), w.heap.size ≤ D → Ix c W → W.heap[D]? = some (.deferred (some [])) → c.wp P Q { a with defers := { target := .collected D, args := #[] } :: a.defers } W) :
    (Code.rangeFunc g ps assign body).wp P Q a w := by
  refine (wpIn_wide (n := 9)).1 (wpIn_rangeFunc ?_)
  intro fn hfn
  obtain ⟨rec, hrec⟩ : ∃ rec : LoopState → Option Code → Loop, rec = fun st pe => { state := st, pending := pe, fn, tmps := a.tmps, params := ps, assign, body, defers := w.heap.size } := ⟨_, rfl⟩
  obtain ⟨W1, hW1⟩ : ∃ W1, (w.alloc (.deferred (some []))).alloc (.loop (rec .ready none)) = W1 := ⟨_, rfl⟩
  have hL1 : W1.heap[w.heap.size + 1]? = some (.loop (rec .ready none)) := by
    rw [← hW1]
    have := World.alloc_heap_new (w.alloc (.deferred (some []))) (.loop (rec .ready none))
    rwa [World.size_alloc] at this
  have hK1 : W1.heap[w.heap.size]? = some (.deferred (some [])) := by
    rw [← hW1]
    exact (Below.heap_alloc _ _ _ (by simp)).trans (World.alloc_heap_new w _)
  have hb1 : Below w.heap.size w W1 := by
    rw [← hW1]
    exact ((Below.refl _ w).alloc (Nat.le_refl _) _).alloc (by simp) _
  have hI1 : I C0 [] W1 := (hI C0 []).of_below h0 hb1
  have hz1 : W1.heap.size = w.heap.size + 2 := by rw [← hW1]; simp
  refine ⟨w.heap.size + 1, [{ target := .collected w.heap.size, args := #[] }], W1, { target := .fn (.func gf) lb, args := #[.func (.yield (w.heap.size + 1)) #[] #[]] }, W1, gf,
    #[.func (.yield (w.heap.size + 1)) #[] #[]] ++ lb, W1, ?_, ?_, ?_, ?_, fun h => by simp [Fence.wide] at h, ?_⟩
  · rw [← hW1, hrec]
    exact run_enterLoop_outer _ _ _ _ _
  · simp only [resolve, hg]
    simp [go_sem]
  · intro f' _
    trivial
  · simp [invoke, go_sem, eg]
  · refine (hit (w.heap.size + 1)
      (fun C pre W => w.heap.size ≤ W.heap.size ∧ I C pre W ∧ W.heap[w.heap.size + 1]? = some (.loop (rec .ready none)) ∧ W.heap[w.heap.size]? = some (.deferred (some [])))
      (fun W => ∃ c, Ix c W ∧ W.heap[w.heap.size + 1]? = some (.loop (rec .done (some c))) ∧ W.heap[w.heap.size]? = some (.deferred (some [])))
      W1 hb1 ?_ ?_ ?_ ?_ C0 (fun k hk => by have := hC0 k hk; omega) ⟨hb1.size, hI1, hL1, hK1⟩).mono ?_
    · rintro C pre A B ⟨hz, hi, hl, hk⟩ hb
      exact ⟨Nat.le_trans hz hb.size, (hI C pre).of_below hi hb, (hb.block _ (Array.getElem?_eq_some_iff.1 hl).1).trans hl, (hb.block _ (Array.getElem?_eq_some_iff.1 hk).1).trans hk⟩
    · rintro A B ⟨c, hi, hl, hk⟩ hb
      exact ⟨c, (hIx c).of_below hi hb, (hb.block _ (Array.getElem?_eq_some_iff.1 hl).1).trans hl, (hb.block _ (Array.getElem?_eq_some_iff.1 hk).1).trans hk⟩
    · rintro C pre W p v ⟨hz, hi, hl, hk⟩ hp hc
      rw [hz1] at hp
      exact ⟨by simpa [World.setCell] using hz, hIM C pre W p v hi hp hc, (Below.heap_setCell W p v _ (by omega)).trans hl, (Below.heap_setCell W p v _ (by omega)).trans hk⟩
    · rintro C pre x rest W hx ⟨hz, hi, hl, hk⟩
      rw [hz1]
      have hlt : w.heap.size + 1 < W.heap.size := (Array.getElem?_eq_some_iff.1 hl).1
      have hy := run_yield (P := P) (args := encs x) hl (by rw [hrec]; exact hps x)
      rw [hrec] at hy
      refine ⟨fn, _, assign, body, hy, roundIn_of_wpIn hfn (hassign _ x W _ hz fun a1 W' hbA hA1 => ?_)⟩
      have hzA : w.heap.size ≤ W'.heap.size := Nat.le_trans hz hbA.size
      have hiA : I C pre W' := (hI C pre).of_below hi hbA
      have hlA : W'.heap[w.heap.size + 1]? = some (.loop (rec .ready none)) := (hbA.block _ hlt).trans hl
      have hkA : W'.heap[w.heap.size]? = some (.deferred (some [])) := (hbA.block _ (by omega)).trans hk
      have hKA : KeepI n₀ Bs W W' := KeepI.of_below hbA
      have hZA : KeepZ (w.heap.size + 2) C W W' := KeepZ.of_below hbA
      clear hz hi hl hk hbA
      have hltA : w.heap.size + 1 < W'.heap.size := (Array.getElem?_eq_some_iff.1 hlA).1
      refine ⟨_, run_beginRound hlA (by rw [hrec]), ?_⟩
      have hl2 : (W'.putObj (w.heap.size + 1) (.loop { rec .ready none with state := .busy })).heap[w.heap.size + 1]? = some (.loop { rec .ready none with state := .busy }) := World.putObj_heap_same hltA
      have hk2 : (W'.putObj (w.heap.size + 1) (.loop { rec .ready none with state := .busy })).heap[w.heap.size]? = some (.deferred (some [])) := (World.putObj_heap_other (by omega)).trans hkA
      have hB1 : ∀ B ∈ Bs, B < w.heap.size + 1 := fun B hB => Nat.lt_succ_of_lt (hBs B hB)
      have hw2 : KeepI n₀ Bs W' (W'.putObj (w.heap.size + 1) (.loop { rec .ready none with state := .busy })) := keepI_putObj _ (by omega) hB1
      have hZ2 : KeepZ (w.heap.size + 2) C W' (W'.putObj (w.heap.size + 1) (.loop { rec .ready none with state := .busy })) := keepZ_putObj _ (by omega)
      have hi2 : I C pre (W'.putObj (w.heap.size + 1) (.loop { rec .ready none with state := .busy })) := (hI C pre).putObj _ hiA (by omega) hlA rfl
      refine wpIn_mono (hbody _ C pre x rest a1 _ hx (by simpa using hzA) hi2 ((hA x a1).putObj _ hA1 (by omega) hlA rfl)) ?_
      have fin : ∀ (jump : Option Code) (W3 : World), Tame n₀ Bs (W'.putObj (w.heap.size + 1) (.loop { rec .ready none with state := .busy })) W3 →
          (Instr.endRound (w.heap.size + 1) jump).run P W3 = .ok (.bool jump.isNone) (W3.putObj (w.heap.size + 1) (.loop (rec (if jump.isNone then .ready else .done) jump))) ∧
          W3.heap[w.heap.size + 1]? = some (.loop { rec .ready none with state := .busy }) ∧
          (W3.putObj (w.heap.size + 1) (.loop (rec (if jump.isNone then .ready else .done) jump))).heap[w.heap.size + 1]? = some (.loop (rec (if jump.isNone then .ready else .done) jump)) ∧
          (W3.putObj (w.heap.size + 1) (.loop (rec (if jump.isNone then .ready else .done) jump))).heap[w.heap.size]? = some (.deferred (some [])) := fun jump W3 hk3 => by
        have hl3 := hk3.others hl2 rfl
        have := run_endRound (P := P) jump hl3
        rw [hrec] at this ⊢
        exact ⟨this, by rw [hrec] at hl3; exact hl3, World.putObj_heap_same (Array.getElem?_eq_some_iff.1 hl3).1, (World.putObj_heap_other (by omega)).trans (hk3.others hk2 rfl)⟩
      rintro e a3 W3 hp
      cases e with
      | normal =>
        obtain ⟨hk3, hz3, C', hi3, hC'⟩ := hp
        obtain ⟨hr, hl3, hl4, hk4⟩ := fin none W3 hk3
        have hs3 := hk3.size
        simp only [World.putObj_size] at hs3
        have hsz2 := hKA.size
        simp only [World.putObj_size] at hC'
        exact ⟨_, _, hr, .inl ⟨rfl, ⟨C', ⟨by simp only [World.putObj_size]; omega, (hI _ _).putObj _ hi3 (by omega) hl3 rfl, hl4, hk4⟩, fun k hk => by rcases hC' k hk with h | h; exact .inl h; exact .inr (by simp only [World.putObj_size]; omega)⟩, (hKA.trans (hw2.trans hk3.keep)).trans (keepI_putObj _ (by omega) hB1), (hZA.trans (hZ2.trans hz3)).trans (keepZ_putObj _ (by omega))⟩⟩
      | ret =>
        obtain ⟨hk3, hi3⟩ := hp
        obtain ⟨hr, hl3, hl4, hk4⟩ := fin (some .ret) W3 hk3
        exact ⟨_, _, hr, .inr ⟨rfl, .ret, (hIx _).putObj _ hi3 (by omega) hl3 rfl, hl4, hk4⟩⟩
      | exit id =>
        obtain ⟨hk3, hi3⟩ := hp
        obtain ⟨hr, hl3, hl4, hk4⟩ := fin (some (.exit id)) W3 hk3
        exact ⟨_, _, hr, .inr ⟨rfl, .exit id, (hIx _).putObj _ hi3 (by omega) hl3 rfl, hl4, hk4⟩⟩
      | goto t =>
        obtain ⟨hk3, hi3⟩ := hp
        obtain ⟨hr, hl3, hl4, hk4⟩ := fin (some (.goto t)) W3 hk3
        exact ⟨_, _, hr, .inr ⟨rfl, .goto t, (hIx _).putObj _ hi3 (by omega) hl3 rfl, hl4, hk4⟩⟩
      | panic ch => exact hp.elim
      | outgrown => exact hp.elim
    · rintro e W2 ⟨⟨v, rfl⟩, (⟨C, _, hi, hl, hk⟩ | ⟨c, hi, hl, hk⟩)⟩
      · exact ⟨none, _, by have := run_endLoop (P := P) hl (by rw [hrec]; simp); rw [hrec] at this; exact this, hdone _ C _ (Nat.le_refl _) ((hI _ _).putObj _ hi (by omega) hl rfl) ((World.putObj_heap_other (by omega)).trans hk)⟩
      · exact ⟨some c, _, by have := run_endLoop (P := P) hl (by rw [hrec]; simp); rw [hrec] at this; exact this, wpIn_wide.2 (hstop _ c _ (Nat.le_refl _) ((hIx c).putObj _ hi (by omega) hl rfl) ((World.putObj_heap_other (by omega)).trans hk))⟩
end
end Go.Proofs.Ytkaiibipcnlaiaa.Hand
