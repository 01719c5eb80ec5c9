/- General laws for the bodies of loops over iterators: a region that is walked in the plain way serves in a round, too. No condition of its own. -/
import Derived.RangeFuncNested
import Derived.RangeFuncBound
import Derived.RangeFuncCalls
import Derived.RangeFuncLeaves
import Derived.WalkKit
import Derived.OwnWalkIn
import Derived.TacticsInMore
import Derived.LoopNIn
import Derived.LoopIn
import Derived.StillTail
import Derived.Deep.Quiet
import Derived.Shelf.Abstract
namespace Go.Proofs.Ytfcdljnjhljjgaa.Hand
open Go Go.RowKit

section
variable {P : Program} {ops : Array Oper} {Q : Exit → Act → World → Prop} {a : Act} {w : World} {l n : Nat}

/-- The fence of a round in the wide fence. -/
abbrev RF (l : Nat) : Fence := Fence.wide.inRound l

theorem rowsIn_round {row : String} {args : Array Value} {R : Value → World → Prop} (h : Rows P row args w R) : RowsIn (RF l) n P row args w R :=
  fun c cs _ => let ⟨v, w', r, s⟩ := h c cs; ⟨v, w', r, (stepsIn_wide (P := P)).2 s⟩

theorem uponIn_round {o : Oper} {K : Act → World → Prop} {r : Result Next} (h : o.upon P a K Q r) : o.uponIn (RF l) n P a K Q r := by
  cases r with
  | ok x w' =>
    cases x <;> simp only [Oper.upon, Oper.uponIn] at h ⊢ <;>
      first
        | exact h
        | exact ⟨fun hd => by simp [RF, Fence.wide] at hd, CallsIn.inRound l (callsIn_wide.2 h)⟩
        | exact ⟨fun hd => by simp [RF, Fence.wide] at hd, rowsIn_round h⟩
        | exact h.elim
  | halt x w' => cases x <;> simp only [Oper.upon, Oper.uponIn] at h ⊢ <;> exact h

/-- No operation of these is a 'defer'. -/
def noDefer (l : List Oper) : Bool := l.all fun o => match o.op with | .defer _ => false | _ => true

theorem noDefer_at {l : List Oper} {i : Nat} {o : Oper} (h : noDefer l = true) (hi : l[i]? = some o) : ∀ c, o.op ≠ .defer c := by
  intro c e
  have hm := List.mem_of_getElem? hi
  have := List.all_eq_true.1 h o hm
  simp [e] at this

theorem opIn_round {o : Oper} (hd : ∀ c, o.op ≠ .defer c) {K : Act → World → Prop} (h : o.wp P a w K Q) : o.wpIn (RF l) n P a w K Q := by
  refine ⟨fun _ _ => trivial, ?_⟩
  rw [Oper.semAt_eq _ _ _ hd]
  exact uponIn_round h

theorem listIn_round (hQ : ∀ a w, ¬ Q .outgrown a w) : ∀ (ls : List Oper) (a : Act) (w : World), noDefer ls = true → wpList P ops Q ls a w → wpListIn (RF l) n P ops Q ls a w
  | [], _, _, _, h => h
  | o :: ls, a, w, hd, h => by
    have hd' : (∀ c, o.op ≠ .defer c) ∧ noDefer ls = true := by
      refine ⟨noDefer_at (i := 0) hd rfl, ?_⟩
      simp only [noDefer, List.all_cons, Bool.and_eq_true] at hd ⊢
      exact hd.2
    unfold wpList at h
    unfold wpListIn
    split
    · rename_i hw
      rw [if_pos hw] at h
      rcases h with h | ⟨_, a', w', h⟩
      · exact Oper.wpIn_mono (fun a w => listIn_round hQ ls a w hd'.2) (opIn_round hd'.1 h)
      · exact absurd h (hQ a' w')
    · rename_i hw
      rw [if_neg hw] at h
      exact ⟨fun _ _ => trivial, listIn_round hQ ls _ _ hd'.2 h⟩

theorem opAtIn_round (hQ : ∀ a w, ¬ Q .outgrown a w) (hd : noDefer ops.toList = true) {i : Nat} {K : Act → World → Prop} (h : wpOp P ops Q i K a w) : wpOpIn (RF l) n P ops Q i K a w := by
  unfold wpOp at h
  unfold wpOpIn
  split
  · rename_i ho
    rw [ho] at h
    exact h
  · rename_i o ho
    rw [ho] at h
    simp only at h
    split
    · rename_i hw
      rw [if_pos hw] at h
      rcases h with h | ⟨_, a', w', h⟩
      · exact opIn_round (noDefer_at (i := i) hd (by simpa using ho)) h
      · exact absurd h (hQ a' w')
    · rename_i hw
      rw [if_neg hw] at h
      exact ⟨fun _ _ => trivial, h⟩

theorem anyIn_round (hQ : ∀ a w, ¬ Q .outgrown a w) (hd : noDefer ops.toList = true) : ∀ (fuel : Nat) (listed : Array Bool) (a : Act) (w : World), wpAny P .any ops Q fuel listed a w → wpAnyIn (RF l) n P .any ops Q fuel listed a w
  | 0, _, _, _, h => h
  | fuel + 1, _, _, _, h => ⟨h.1, fun i hi => wpOpIn_mono (fun a w => anyIn_round hQ hd fuel _ a w) (opAtIn_round hQ hd (h.2 i hi))⟩

/-- A region whose order is fixed, in a round: by its plain walk. -/
theorem round_region {id : Nat} {ls : List Oper} (hQ : ∀ a w, ¬ Q .outgrown a w) (hd : noDefer ls = true) (h : wpList P ls.toArray Q ls a w) : (Code.region id ls.toArray false).wpIn (RF l) n P Q a w :=
  wpIn_region_lit (listIn_round hQ ls a w hd h)

/-- A region that draws its order, in a round: by its plain walk in whatever order. -/
theorem round_any {id : Nat} {ls : List Oper} (hm : P.follows .mixedOrders = true) (hQ : ∀ a w, ¬ Q .outgrown a w) (hd : noDefer ls = true)
    (h : wpAny P .any ls.toArray Q ls.toArray.size (Array.replicate ls.toArray.size false) a { w with drawn := w.drawn + 1 }) : (Code.region id ls.toArray true).wpIn (RF l) n P Q a w :=
  wpIn_region_any hm (anyIn_round hQ (by simpa using hd) _ _ _ _ h)

/-- .. whose operations leave the world alone. -/
theorem round_quiet {id : Nat} {ls : List Oper} (hm : P.follows .mixedOrders = true) (hQ : ∀ a w, ¬ Q .outgrown a w) (hd : noDefer ls = true) (hB : Region.lexB .any ls.toArray = true)
    (h : wpQuiet P ls.toArray (fun w' => ∃ n, w' = w.drewN n) (fun a' => ∀ w', (∃ n, w' = w.drewN n) → Q .normal a' w') ls a) : (Code.region id ls.toArray true).wpIn (RF l) n P Q a w := by
  simp only [Region.lexB, Bool.and_eq_true] at hB
  refine round_any hm hQ hd (wpAny_of_quiet (C := fun w' => ∃ n, w' = w.drewN n) (Q := fun a' => ∀ w', (∃ n, w' = w.drewN n) → Q .normal a' w') (fun _ w' hw' h => h w' hw') _ _ _ _ ⟨1, rfl⟩ ?_)
  have := wpAnyQ_lex (C := fun w' => ∃ n, w' = w.drewN n) (md := .any) hB.1 ls 0 (Array.replicate ls.toArray.size false) a (by simp) (by simpa using hB.2) h
  simpa using this

/-- .. whose head only reads, and whose tail has one order. -/
theorem any_still_tail {ls : List Oper} (k : Nat) (hB : Region.lexTailB .any ls.toArray k = true)
    (h : wpStill P ls.toArray w (fun a' => wpList P ls.toArray Q (ls.drop k) a' w) (ls.take k) a) : wpAny P .any ls.toArray Q ls.toArray.size (Array.replicate ls.toArray.size false) a w := by
  simp only [Region.lexTailB, Bool.and_eq_true, decide_eq_true_eq] at hB
  obtain ⟨⟨⟨⟨hsel, hn⟩, hs⟩, hc⟩, hlex⟩ := hB
  have hn' : k < ls.length := by simpa using hn
  have htl : (ls.take k).length = k := by simp; omega
  have hdl : (ls.drop k).length = ls.toArray.size - k := by simp
  have inv0 : HeadInv .any ls.toArray k (Array.replicate ls.toArray.size false) :=
    ⟨by simp, fun j oj _ hl => (by rw [getD_replicate_false] at hl; cases hl), fun t _ ht => getD_in (by simpa using ht) (getD_replicate_false _ _)⟩
  have H := wpAnyL_lex (md := .any) (g := ls.toArray.size - k) hsel hs hc hn (ls.take k) 0 _ a (fun j hj => by
    have hj' : j < k := by rw [htl] at hj; exact hj
    simp [hj']) (by simpa using htl) inv0 (by rw [htl]; exact hlex) h
  have := wpAny_of_head (Q' := Q) (g := ls.toArray.size - k) (fun listed a' hL => by
    have := wpAny_of_seq (md := .any) (Q' := Q) (ls.drop k) k listed a' w (fun j => by simp [List.getElem?_drop]) (by rw [hdl]; exact hL.1) hL.2
    rwa [hdl] at this) _ _ _ H
  rw [htl, show k + (ls.toArray.size - k) = ls.toArray.size by omega] at this
  exact this

theorem round_still_tail {id : Nat} {ls : List Oper} (k : Nat) (hm : P.follows .mixedOrders = true) (hQ : ∀ a w, ¬ Q .outgrown a w) (hd : noDefer ls = true) (hB : Region.lexTailB .any ls.toArray k = true)
    (h : wpStill P ls.toArray w.drew (fun a' => wpList P ls.toArray Q (ls.drop k) a' w.drew) (ls.take k) a) : (Code.region id ls.toArray true).wpIn (RF l) n P Q a w :=
  round_any hm hQ hd (any_still_tail k hB h)
end

/-! ### Loops over iterators -/
section
variable {P : Program}

/-- A predicate of worlds that abides new blocks, and the turn of a block from B on that holds no cells. -/
def Bide (B : Nat) (p : World → Prop) : Prop :=
  ∀ W W' row, p W → W.grownBy W' row → (∀ r, row = some r → B ≤ r ∧ ∃ o : Obj, W.heap[r]? = some o ∧ o.isCells = false) → p W'

theorem Bide.and {B : Nat} {p q : World → Prop} (hp : Bide B p) (hq : Bide B q) : Bide B (fun W => p W ∧ q W) := fun W W' row h hg hr => ⟨hp W W' row h.1 hg hr, hq W W' row h.2 hg hr⟩
theorem Bide.ex {B : Nat} {ι : Sort _} {p : ι → World → Prop} (h : ∀ i, Bide B (p i)) : Bide B (fun W => ∃ i, p i W) := fun W W' row ⟨i, hi⟩ hg hr => ⟨i, h i W W' row hi hg hr⟩
theorem Bide.const {B : Nat} (p : Prop) : Bide B (fun _ => p) := fun _ _ _ h _ _ => h
theorem Bide.never {B : Nat} : Bide B (fun _ => False) := Bide.const False
theorem Bide.below {B n₀ : Nat} {w₀ : World} (hn : n₀ ≤ w₀.heap.size) (hB : n₀ ≤ B) : Bide B (fun W => Below n₀ w₀ W) :=
  fun _ _ _ hs hg hr => hs.grown hg (Nat.le_trans hn hs.size) (fun k e => Nat.le_trans hB (hr k e).1)
theorem Bide.boxed {B : Nat} (b : Nat) (t : TypeId) (v : Value) : Bide B (fun W => Boxed W b t v) := fun X Y row hs hg hr => hs.kept hg (fun e => by
  obtain ⟨_, o, ho, hc⟩ := hr b e.symm
  rw [show X.heap[b]? = _ from hs] at ho
  cases ho
  cases hc)
theorem Bide.blk {B : Nat} (b : Nat) (cs : Array Value) (t : TypeId) : Bide B (fun W => W.heap[b]? = some (.cells cs t (0, 0))) := fun X Y row hs hg hr => (hg.block b (Array.getElem?_eq_some_iff.1 hs).1 (fun e => by
  obtain ⟨_, o, ho, hc⟩ := hr b e.symm
  rw [hs] at ho
  cases ho
  cases hc)).trans hs

/-- What an iterator may count on between two rounds: what lies below n₀, and the blocks Bs, lie as they lay. -/
structure KeepI (n₀ : Nat) (Bs : List Nat) (W W' : World) : Prop where
  size : W.heap.size ≤ W'.heap.size
  block : ∀ k, k < W.heap.size → (k < n₀ ∨ k ∈ Bs) → W'.heap[k]? = W.heap[k]?
theorem KeepI.refl (n₀ : Nat) (Bs : List Nat) (W : World) : KeepI n₀ Bs W W := ⟨Nat.le_refl _, fun _ _ _ => rfl⟩
theorem KeepI.trans {n₀ : Nat} {Bs : List Nat} {A B C : World} (h : KeepI n₀ Bs A B) (k : KeepI n₀ Bs B C) : KeepI n₀ Bs A C :=
  ⟨Nat.le_trans h.size k.size, fun i hi hm => (k.block i (Nat.lt_of_lt_of_le hi h.size) hm).trans (h.block i hi hm)⟩
theorem KeepI.of_below {n₀ : Nat} {Bs : List Nat} {A B : World} (h : Below A.heap.size A B) : KeepI n₀ Bs A B := ⟨h.size, fun k hk _ => h.block k hk⟩
theorem KeepI.cell {n₀ : Nat} {Bs : List Nat} {A B : World} (h : KeepI n₀ Bs A B) {p : Addr} {v : Value} (hp : p.block < n₀ ∨ p.block ∈ Bs) (hc : A.cell? p = some v) : B.cell? p = some v :=
  (World.cell?_of_block (w := A) (h.block p.block (World.block_lt_of_cell? A p hc) hp)).trans hc

/-- What a round may do: new blocks; and stores into cells from n₀ on, but for the blocks Bs. -/
structure Tame (n₀ : Nat) (Bs : List Nat) (W W' : World) : Prop where
  size : W.heap.size ≤ W'.heap.size
  block : ∀ k, k < W.heap.size → (k < n₀ ∨ k ∈ Bs ∨ ∃ o : Obj, W.heap[k]? = some o ∧ o.isCells = false) → W'.heap[k]? = W.heap[k]?
theorem Tame.refl (n₀ : Nat) (Bs : List Nat) (W : World) : Tame n₀ Bs W W := ⟨Nat.le_refl _, fun _ _ _ => rfl⟩
theorem Tame.trans {n₀ : Nat} {Bs : List Nat} {A B C : World} (h : Tame n₀ Bs A B) (k : Tame n₀ Bs B C) : Tame n₀ Bs A C :=
  ⟨Nat.le_trans h.size k.size, fun i hi hm => by
    have e := h.block i hi hm
    rw [← e]
    exact k.block i (Nat.lt_of_lt_of_le hi h.size) (by rw [e]; exact hm)⟩
theorem Tame.of_below {n₀ : Nat} {Bs : List Nat} {A B C : World} (h : Tame n₀ Bs A B) (k : Below B.heap.size B C) : Tame n₀ Bs A C := h.trans ⟨k.size, fun i hi _ => k.block i hi⟩
theorem Tame.alloc {n₀ : Nat} {Bs : List Nat} {A B : World} (h : Tame n₀ Bs A B) (o : Obj) : Tame n₀ Bs A (B.alloc o) := h.of_below ((Below.refl _ _).alloc (Nat.le_refl _) _)
theorem Tame.drew {n₀ : Nat} {Bs : List Nat} {A B : World} (h : Tame n₀ Bs A B) : Tame n₀ Bs A B.drew := h.of_below (Below.refl _ _).drew
theorem Tame.drewN {n₀ : Nat} {Bs : List Nat} {A B : World} (h : Tame n₀ Bs A B) (m : Nat) : Tame n₀ Bs A (B.drewN m) := ⟨h.size, h.block⟩
/-- One row of cells is written (an append). -/
theorem Tame.grown {n₀ : Nat} {Bs : List Nat} {A B C : World} {row : Option Nat} (h : Tame n₀ Bs A B) (hg : B.grownBy C row)
    (hr : ∀ k, row = some k → n₀ ≤ k ∧ k ∉ Bs ∧ ∀ o : Obj, B.heap[k]? = some o → o.isCells = true) : Tame n₀ Bs A C := h.trans ⟨hg.size, fun i hi hm => hg.block i hi (fun e => by
    obtain ⟨h1, h2, h3⟩ := hr i e.symm
    rcases hm with hm | hm | ⟨o, ho, hc⟩
    · omega
    · exact h2 hm
    · rw [h3 o ho] at hc
      cases hc)⟩
theorem Tame.setCell {n₀ : Nat} {Bs : List Nat} {A B : World} (h : Tame n₀ Bs A B) {p : Addr} {cs : Array Value} {t : TypeId} (hb : B.heap[p.block]? = some (.cells cs t (0, 0))) (h1 : n₀ ≤ p.block) (h2 : p.block ∉ Bs) (u : Value) : Tame n₀ Bs A (B.setCell p u) :=
  h.trans ⟨by simp [World.setCell], fun i hi hm => Below.heap_setCell _ _ _ _ (fun e => by
    subst e
    rcases hm with hm | hm | ⟨o, ho, hc⟩
    · omega
    · exact h2 hm
    · rw [hb] at ho
      cases ho
      cases hc)⟩
theorem Tame.keep {n₀ : Nat} {Bs : List Nat} {A B : World} (h : Tame n₀ Bs A B) : KeepI n₀ Bs A B := ⟨h.size, fun k hk hm => h.block k hk (hm.elim .inl (fun m => .inr (.inl m)))⟩
theorem Tame.others {n₀ : Nat} {Bs : List Nat} {A B : World} (h : Tame n₀ Bs A B) {k : Nat} {o : Obj} (hk : A.heap[k]? = some o) (ho : o.isCells = false) : B.heap[k]? = some o :=
  (h.block k (Array.getElem?_eq_some_iff.1 hk).1 (.inr (.inr ⟨o, hk, ho⟩))).trans hk

/-- The iterator's contract: function gf with what it has captured hands the elements of xs, in order, to yield; it stops where yield says no. -/
def IterS {α : Type} (P : Program) (gf : Nat) (lb : Array Value) (encs : α → Array Value) (n₀ : Nat) (Bs : List Nat) (xs : List α) (w : World) : Prop :=
  ∀ (l : Nat) (J : List α → World → Prop) (Jx : World → Prop) (W : World), Below w.heap.size w W →
    (∀ pre W1 W2, J pre W1 → Below W1.heap.size W1 W2 → J pre W2) → (∀ W1 W2, Jx W1 → Below W1.heap.size W1 W2 → Jx W2) →
    (∀ pre x rest W1, xs = pre ++ x :: rest → J pre W1 → YieldAt Fence.wide 7 P l (encs x) W1 fun e W2 =>
      (e = .returned (.bool true) ∧ J (pre ++ [x]) W2 ∧ KeepI n₀ Bs W1 W2) ∨ (e = .returned (.bool false) ∧ Jx W2)) →
    J [] W →
    CallsIn Fence.wide 8 P gf (#[.func (.yield l) #[] #[]] ++ lb) W fun e W' => (∃ v, e = .returned v) ∧ (J xs W' ∨ Jx W')

/-- How a round may be left. -/
def roundQ {α : Type} (n₀ : Nat) (Bs : List Nat) (I : List α → World → Prop) (Ix : Code → World → Prop) (s : List α) (W : World) : Exit → Act → World → Prop
  | .normal, _, W' => Tame n₀ Bs W W' ∧ I s W'
  | .ret, _, W' => Tame n₀ Bs W W' ∧ Ix .ret W'
  | .exit id, _, W' => Tame n₀ Bs W W' ∧ Ix (.exit id) W'
  | .goto t, _, W' => Tame n₀ Bs W W' ∧ Ix (.goto t) W'
  | .panic _, _, _ => False
  | .outgrown, _, _ => False

theorem Bide.putObj {B : Nat} {p : World → Prop} (h : Bide B p) {W : World} {l : Nat} {o : Obj} (o' : Obj) (hs : p W) (hB : B ≤ l) (hl : W.heap[l]? = some o) (ho : o.isCells = false) : p (W.putObj l o') :=
  h W _ (some l) hs (grownBy_putObj' W l o') (fun r e => by cases e; exact ⟨hB, o, hl, ho⟩)
theorem Bide.of_below {B : Nat} {p : World → Prop} (h : Bide B p) {W W' : World} (hs : p W) (hb : Below W.heap.size W W') : p W' :=
  h W W' none hs ⟨hb.os, hb.tape, hb.output, hb.size, fun i hi _ => hb.block i hi⟩ (fun r e => by cases e)
theorem keepI_putObj {n₀ : Nat} {Bs : List Nat} {W : World} {l : Nat} (o : Obj) (h1 : n₀ ≤ l) (h2 : ∀ B ∈ Bs, B < l) : KeepI n₀ Bs W (W.putObj l o) :=
  ⟨by simp, fun k _ hm => World.putObj_heap_other (fun e => by
    subst e
    rcases hm with hm | hm
    · omega
    · have := h2 _ hm
      omega)⟩

/-- 'for .. := range it': by the iterator's contract and the walk of one round. -/
theorem wp_range {α : Type} {g : Operand} {ps : Array Tmp} {assign body : Code} {Q : Exit → Act → World → Prop} {a : Act} {w : World}
    {gf : Nat} {lb : Array Value} {encs : α → Array Value} {xs : List α} {n₀ : Nat} {Bs : List Nat}
    (hg : a.eval g = .func (.func gf) #[] lb) (eg : ∀ args w, (callFunc gf args).run P w = .ok (.enter gf args) w)
    (hit : IterS P gf lb encs n₀ Bs xs w) (hn : n₀ ≤ w.heap.size) (hBs : ∀ B ∈ Bs, B < w.heap.size) (hps : ∀ x, (encs x).size = ps.size)
    (I : List α → World → Prop) (Ix : Code → World → Prop) (hI : ∀ s, Bide w.heap.size (I s)) (hIx : ∀ c, Bide w.heap.size (Ix c)) (h0 : I [] w) (a₁ : α → Act)
    (hassign : ∀ (l : Nat) (x : α) (W : World) (K : Act → World → Prop), K (a₁ x) W →
      assign.wpIn (RF l) 7 P (Exit.then K (fun _ _ _ => False)) { tmps := (ps.zip (encs x)).foldl (fun t (p, v) => t.setIfInBounds p v) a.tmps, defers := [] } W)
    (hbody : ∀ (l : Nat) (pre : List α) (x : α) (rest : List α) (W : World), xs = pre ++ x :: rest → w.heap.size ≤ W.heap.size → I pre W → body.wpIn (RF l) 7 P (roundQ n₀ Bs I Ix (pre ++ [x]) W) (a₁ x) W)
    (hdone : ∀ (D : Nat) (W : World), w.heap.size ≤ D → I xs W → W.heap[D]? = some (.deferred (some [])) → Q .normal { a with defers := { target := .collected D, args := #[] } :: a.defers } W)
    (hstop : ∀ (D : Nat) (c : Code) (W : World), w.heap.size ≤ D → Ix c W → W.heap[D]? = some (.deferred (some [])) → c.wp P Q { a with defers := { target := .collected D, args := #[] } :: a.defers } W) :
    (Code.rangeFunc g ps assign body).wp P Q a w := by
  refine (wpIn_wide (n := 9)).1 (wpIn_rangeFunc ?_)
  intro fn hfn
  obtain ⟨rec, hrec⟩ : ∃ rec : LoopState → Option Code → Loop, rec = fun st pe => { state := st, pending := pe, fn, tmps := a.tmps, params := ps, assign, body, defers := w.heap.size } := ⟨_, rfl⟩
  obtain ⟨W1, hW1⟩ : ∃ W1, (w.alloc (.deferred (some []))).alloc (.loop (rec .ready none)) = W1 := ⟨_, rfl⟩
  have hL1 : W1.heap[w.heap.size + 1]? = some (.loop (rec .ready none)) := by
    rw [← hW1]
    have := World.alloc_heap_new (w.alloc (.deferred (some []))) (.loop (rec .ready none))
    rwa [World.size_alloc] at this
  have hK1 : W1.heap[w.heap.size]? = some (.deferred (some [])) := by
    rw [← hW1]
    exact (Below.heap_alloc _ _ _ (by simp)).trans (World.alloc_heap_new w _)
  have hb1 : Below w.heap.size w W1 := by
    rw [← hW1]
    exact ((Below.refl _ w).alloc (Nat.le_refl _) _).alloc (by simp) _
  have hI1 : I [] W1 := (hI []).of_below h0 hb1
  refine ⟨w.heap.size + 1, [{ target := .collected w.heap.size, args := #[] }], W1, { target := .fn (.func gf) lb, args := #[.func (.yield (w.heap.size + 1)) #[] #[]] }, W1, gf,
    #[.func (.yield (w.heap.size + 1)) #[] #[]] ++ lb, W1, ?_, ?_, ?_, ?_, fun h => by simp [Fence.wide] at h, ?_⟩
  · rw [← hW1, hrec]
    exact run_enterLoop_outer _ _ _ _ _
  · simp only [resolve, hg]
    simp [go_sem]
  · intro f' _
    trivial
  · simp [invoke, go_sem, eg]
  · refine (hit (w.heap.size + 1)
      (fun pre W => w.heap.size ≤ W.heap.size ∧ I pre W ∧ W.heap[w.heap.size + 1]? = some (.loop (rec .ready none)) ∧ W.heap[w.heap.size]? = some (.deferred (some [])))
      (fun W => ∃ c, Ix c W ∧ W.heap[w.heap.size + 1]? = some (.loop (rec .done (some c))) ∧ W.heap[w.heap.size]? = some (.deferred (some [])))
      W1 hb1 ?_ ?_ ?_ ⟨hb1.size, hI1, hL1, hK1⟩).mono ?_
    · rintro pre A B ⟨hz, hi, hl, hk⟩ hb
      exact ⟨Nat.le_trans hz hb.size, (hI pre).of_below hi hb, (hb.block _ (Array.getElem?_eq_some_iff.1 hl).1).trans hl, (hb.block _ (Array.getElem?_eq_some_iff.1 hk).1).trans hk⟩
    · rintro A B ⟨c, hi, hl, hk⟩ hb
      exact ⟨c, (hIx c).of_below hi hb, (hb.block _ (Array.getElem?_eq_some_iff.1 hl).1).trans hl, (hb.block _ (Array.getElem?_eq_some_iff.1 hk).1).trans hk⟩
    · rintro pre x rest W hx ⟨hz, hi, hl, hk⟩
      have hlt : w.heap.size + 1 < W.heap.size := (Array.getElem?_eq_some_iff.1 hl).1
      have hy := run_yield (P := P) (args := encs x) hl (by rw [hrec]; exact hps x)
      rw [hrec] at hy
      refine ⟨fn, _, assign, body, hy, roundIn_of_wpIn hfn (hassign _ x W _ ⟨_, run_beginRound hl (by rw [hrec]), ?_⟩)⟩
      have hl2 : (W.putObj (w.heap.size + 1) (.loop { rec .ready none with state := .busy })).heap[w.heap.size + 1]? = some (.loop { rec .ready none with state := .busy }) := World.putObj_heap_same hlt
      have hk2 : (W.putObj (w.heap.size + 1) (.loop { rec .ready none with state := .busy })).heap[w.heap.size]? = some (.deferred (some [])) := (World.putObj_heap_other (by omega)).trans hk
      have hB1 : ∀ B ∈ Bs, B < w.heap.size + 1 := fun B hB => Nat.lt_succ_of_lt (hBs B hB)
      have hw2 : KeepI n₀ Bs W (W.putObj (w.heap.size + 1) (.loop { rec .ready none with state := .busy })) := keepI_putObj _ (by omega) hB1
      have hi2 : I pre (W.putObj (w.heap.size + 1) (.loop { rec .ready none with state := .busy })) := (hI pre).putObj _ hi (by omega) hl rfl
      refine wpIn_mono (hbody _ pre x rest _ hx (by simpa using hz) hi2) ?_
      have fin : ∀ (jump : Option Code) (W3 : World), Tame n₀ Bs (W.putObj (w.heap.size + 1) (.loop { rec .ready none with state := .busy })) W3 →
          (Instr.endRound (w.heap.size + 1) jump).run P W3 = .ok (.bool jump.isNone) (W3.putObj (w.heap.size + 1) (.loop (rec (if jump.isNone then .ready else .done) jump))) ∧
          W3.heap[w.heap.size + 1]? = some (.loop { rec .ready none with state := .busy }) ∧
          (W3.putObj (w.heap.size + 1) (.loop (rec (if jump.isNone then .ready else .done) jump))).heap[w.heap.size + 1]? = some (.loop (rec (if jump.isNone then .ready else .done) jump)) ∧
          (W3.putObj (w.heap.size + 1) (.loop (rec (if jump.isNone then .ready else .done) jump))).heap[w.heap.size]? = some (.deferred (some [])) := fun jump W3 hk3 => by
        have hl3 := hk3.others hl2 rfl
        have := run_endRound (P := P) jump hl3
        rw [hrec] at this ⊢
        exact ⟨this, by rw [hrec] at hl3; exact hl3, World.putObj_heap_same (Array.getElem?_eq_some_iff.1 hl3).1, (World.putObj_heap_other (by omega)).trans (hk3.others hk2 rfl)⟩
      rintro e a3 W3 hp
      cases e with
      | normal =>
        obtain ⟨hk3, hi3⟩ := hp
        obtain ⟨hr, hl3, hl4, hk4⟩ := fin none W3 hk3
        have hs3 := hk3.size
        simp only [World.putObj_size] at hs3
        exact ⟨_, _, hr, .inl ⟨rfl, ⟨by simp only [World.putObj_size]; omega, (hI _).putObj _ hi3 (by omega) hl3 rfl, hl4, hk4⟩, (hw2.trans hk3.keep).trans (keepI_putObj _ (by omega) hB1)⟩⟩
      | ret =>
        obtain ⟨hk3, hi3⟩ := hp
        obtain ⟨hr, hl3, hl4, hk4⟩ := fin (some .ret) W3 hk3
        exact ⟨_, _, hr, .inr ⟨rfl, .ret, (hIx _).putObj _ hi3 (by omega) hl3 rfl, hl4, hk4⟩⟩
      | exit id =>
        obtain ⟨hk3, hi3⟩ := hp
        obtain ⟨hr, hl3, hl4, hk4⟩ := fin (some (.exit id)) W3 hk3
        exact ⟨_, _, hr, .inr ⟨rfl, .exit id, (hIx _).putObj _ hi3 (by omega) hl3 rfl, hl4, hk4⟩⟩
      | goto t =>
        obtain ⟨hk3, hi3⟩ := hp
        obtain ⟨hr, hl3, hl4, hk4⟩ := fin (some (.goto t)) W3 hk3
        exact ⟨_, _, hr, .inr ⟨rfl, .goto t, (hIx _).putObj _ hi3 (by omega) hl3 rfl, hl4, hk4⟩⟩
      | panic ch => exact hp.elim
      | outgrown => exact hp.elim
    · rintro e W2 ⟨⟨v, rfl⟩, (⟨_, hi, hl, hk⟩ | ⟨c, hi, hl, hk⟩)⟩
      · exact ⟨none, _, by have := run_endLoop (P := P) hl (by rw [hrec]; simp); rw [hrec] at this; exact this, hdone _ _ (Nat.le_refl _) ((hI _).putObj _ hi (by omega) hl rfl) ((World.putObj_heap_other (by omega)).trans hk)⟩
      · exact ⟨some c, _, by have := run_endLoop (P := P) hl (by rw [hrec]; simp); rw [hrec] at this; exact this, wpIn_wide.2 (hstop _ c _ (Nat.le_refl _) ((hIx c).putObj _ hi (by omega) hl rfl) ((World.putObj_heap_other (by omega)).trans hk))⟩
end

/-- The first n of what a function tells, and how they part. -/
theorem map_range_split {α : Type} (f : Nat → α) {k n : Nat} (h : k < n) : ∃ rest, (List.range n).map f = (List.range k).map f ++ f k :: rest := by
  obtain ⟨d, rfl⟩ : ∃ d, n = k + 1 + d := ⟨n - (k + 1), by omega⟩
  rw [List.range_add, List.map_append, List.range_succ, List.map_append]
  exact ⟨((List.range d).map (k + 1 + ·)).map f, by simp only [List.map_cons, List.map_nil, List.append_assoc, List.cons_append, List.nil_append]⟩
end Go.Proofs.Ytfcdljnjhljjgaa.Hand
