/- General laws for loops over iterators that lay and write boxes of their own. No condition of its own. -/
import Derived.Test.YtfcdljnjhljjgaaHand9
import Derived.BigRegionIn
import Derived.Sort.LoopGhostIn
import Derived.Lib.Hide
import Derived.BigQuiet
namespace Go.Proofs.Ytfcdljnjhljjgaa.Hand
open Go Go.RowKit Go.Proofs.YtfcdljnjhljjgaaW.PrintWords Go.Proofs.YtfcdljnjhljjgaaW.PrintLast
section
variable {P : Program}
/-- From a block on, all that are not of a set lie as they lay. -/
structure KeepZ (z : Nat) (C : Nat → Prop) (W W' : World) : Prop where
  size : W.heap.size ≤ W'.heap.size
  block : ∀ k, k < W.heap.size → z ≤ k → ¬ C k → W'.heap[k]? = W.heap[k]?
theorem KeepZ.trans {z : Nat} {C : Nat → Prop} {A B D : World} (h : KeepZ z C A B) (k : KeepZ z C B D) : KeepZ z C A D :=
  ⟨Nat.le_trans h.size k.size, fun i hi hz hc => (k.block i (Nat.lt_of_lt_of_le hi h.size) hz hc).trans (h.block i hi hz hc)⟩
theorem KeepZ.of_below {z : Nat} {C : Nat → Prop} {A B : World} (h : Below A.heap.size A B) : KeepZ z C A B := ⟨h.size, fun k hk _ _ => h.block k hk⟩
theorem keepZ_putObj {z : Nat} {C : Nat → Prop} {W : World} {l : Nat} (o : Obj) (h : l < z) : KeepZ z C W (W.putObj l o) :=
  ⟨by simp, fun k _ hz _ => World.putObj_heap_other (fun e => by omega)⟩
/-- The iterator's contract, for one that lays boxes of its own and writes them: function gf with what it has captured hands the elements of xs, in order, to yield; it stops where yield says no. C: the blocks that the caller writes. -/
def IterC {α : Type} (P : Program) (gf : Nat) (lb : Array Value) (encs : α → Array Value) (n₀ : Nat) (Bs : List Nat) (xs : List α) (w : World) : Prop :=
  ∀ (l : Nat) (J : (Nat → Prop) → List α → World → Prop) (Jx : World → Prop) (W : World), Below w.heap.size w W →
    (∀ C pre W1 W2, J C pre W1 → Below W1.heap.size W1 W2 → J C pre W2) → (∀ W1 W2, Jx W1 → Below W1.heap.size W1 W2 → Jx W2) →
    (∀ C pre W1 p v, J C pre W1 → W.heap.size ≤ p.block → ¬ C p.block → J C pre (W1.setCell p v)) →
    (∀ C pre x rest W1, xs = pre ++ x :: rest → J C pre W1 → YieldAt Fence.wide 7 P l (encs x) W1 fun e W2 =>
      (e = .returned (.bool true) ∧ (∃ C' : Nat → Prop, J C' (pre ++ [x]) W2 ∧ ∀ k, C' k → C k ∨ W1.heap.size ≤ k ∧ k < W2.heap.size) ∧ KeepI n₀ Bs W1 W2 ∧ KeepZ W.heap.size C W1 W2) ∨ (e = .returned (.bool false) ∧ Jx W2)) →
    ∀ C0 : Nat → Prop, (∀ k, C0 k → k < W.heap.size) → J C0 [] W →
    CallsIn Fence.wide 8 P gf (#[.func (.yield l) #[] #[]] ++ lb) W fun e W' => (∃ v, e = .returned v) ∧ ((∃ C, J C xs W') ∨ Jx W')
/-- 'for .. := range it' where what is handed over is laid in memory of its own, and the iterator has boxes of its own: by the iterator's contract and the walk of one round. -/
theorem wp_rangeC {α : Type} {g : Operand} {ps : Array Tmp} {assign body : Code} {Q : Exit → Act → World → Prop} {a : Act} {w : World}
    {gf : Nat} {lb : Array Value} {encs : α → Array Value} {xs : List α} {n₀ : Nat} {Bs : List Nat}
    (hg : a.eval g = .func (.func gf) #[] lb) (eg : ∀ args w, (callFunc gf args).run P w = .ok (.enter gf args) w)
    (hit : IterC P gf lb encs n₀ Bs xs w) (hn : n₀ ≤ w.heap.size) (hBs : ∀ B ∈ Bs, B < w.heap.size) (hps : ∀ x, (encs x).size = ps.size)
    (I : (Nat → Prop) → List α → World → Prop) (Ix : Code → World → Prop) (hI : ∀ C s, Bide w.heap.size (I C s)) (hIM : ∀ C s W p v, I C s W → w.heap.size + 2 ≤ p.block → ¬ C p.block → I C s (W.setCell p v)) (hIx : ∀ c, Bide w.heap.size (Ix c)) (C0 : Nat → Prop) (hC0 : ∀ k, C0 k → k < w.heap.size) (h0 : I C0 [] w) (A : α → Act → World → Prop) (hA : ∀ x a, Bide w.heap.size (A x a))
    (hassign : ∀ (l : Nat) (x : α) (W : World) (K : Act → World → Prop), w.heap.size ≤ W.heap.size → (∀ a1 W1, Below W.heap.size W W1 → A x a1 W1 → K a1 W1) →
      assign.wpIn (RF l) 7 P (Exit.then K (fun _ _ _ => False)) { tmps := (ps.zip (encs x)).foldl (fun t (p, v) => t.setIfInBounds p v) a.tmps, defers := [] } W)
    (hbody : ∀ (l : Nat) (C : Nat → Prop) (pre : List α) (x : α) (rest : List α) (a1 : Act) (W : World), xs = pre ++ x :: rest → w.heap.size ≤ W.heap.size → I C pre W → A x a1 W → body.wpIn (RF l) 7 P (roundQ n₀ Bs (fun s W' => KeepZ (w.heap.size + 2) C W W' ∧ ∃ C' : Nat → Prop, I C' s W' ∧ ∀ k, C' k → C k ∨ W.heap.size ≤ k ∧ k < W'.heap.size) Ix (pre ++ [x]) W) a1 W)
    (hdone : ∀ (D : Nat) (C : Nat → Prop) (W : World), w.heap.size ≤ D → I C xs W → W.heap[D]? = some (.deferred (some [])) → Q .normal { a with defers := { target := .collected D, args := #[] } :: a.defers } W)
    (hstop : ∀ (D : Nat) (c : Code) (W : World), w.heap.size ≤ D → Ix c W → W.heap[D]? = some (.deferred (some [])) → c.wp P Q { a with defers := { target := .collected D, args := #[] } :: a.defers } W) :
    (Code.rangeFunc g ps assign body).wp P Q a w := by
  refine (wpIn_wide (n := 9)).1 (wpIn_rangeFunc ?_)
  intro fn hfn
  obtain ⟨rec, hrec⟩ : ∃ rec : LoopState → Option Code → Loop, rec = fun st pe => { state := st, pending := pe, fn, tmps := a.tmps, params := ps, assign, body, defers := w.heap.size } := ⟨_, rfl⟩
  obtain ⟨W1, hW1⟩ : ∃ W1, (w.alloc (.deferred (some []))).alloc (.loop (rec .ready none)) = W1 := ⟨_, rfl⟩
  have hL1 : W1.heap[w.heap.size + 1]? = some (.loop (rec .ready none)) := by
    rw [← hW1]
    have := World.alloc_heap_new (w.alloc (.deferred (some []))) (.loop (rec .ready none))
    rwa [World.size_alloc] at this
  have hK1 : W1.heap[w.heap.size]? = some (.deferred (some [])) := by
    rw [← hW1]
    exact (Below.heap_alloc _ _ _ (by simp)).trans (World.alloc_heap_new w _)
  have hb1 : Below w.heap.size w W1 := by
    rw [← hW1]
    exact ((Below.refl _ w).alloc (Nat.le_refl _) _).alloc (by simp) _
  have hI1 : I C0 [] W1 := (hI C0 []).of_below h0 hb1
  have hz1 : W1.heap.size = w.heap.size + 2 := by rw [← hW1]; simp
  refine ⟨w.heap.size + 1, [{ target := .collected w.heap.size, args := #[] }], W1, { target := .fn (.func gf) lb, args := #[.func (.yield (w.heap.size + 1)) #[] #[]] }, W1, gf,
    #[.func (.yield (w.heap.size + 1)) #[] #[]] ++ lb, W1, ?_, ?_, ?_, ?_, fun h => by simp [Fence.wide] at h, ?_⟩
  · rw [← hW1, hrec]
    exact run_enterLoop_outer _ _ _ _ _
  · simp only [resolve, hg]
    simp [go_sem]
  · intro f' _
    trivial
  · simp [invoke, go_sem, eg]
  · refine (hit (w.heap.size + 1)
      (fun C pre W => w.heap.size ≤ W.heap.size ∧ I C pre W ∧ W.heap[w.heap.size + 1]? = some (.loop (rec .ready none)) ∧ W.heap[w.heap.size]? = some (.deferred (some [])))
      (fun W => ∃ c, Ix c W ∧ W.heap[w.heap.size + 1]? = some (.loop (rec .done (some c))) ∧ W.heap[w.heap.size]? = some (.deferred (some [])))
      W1 hb1 ?_ ?_ ?_ ?_ C0 (fun k hk => by have := hC0 k hk; omega) ⟨hb1.size, hI1, hL1, hK1⟩).mono ?_
    · rintro C pre A B ⟨hz, hi, hl, hk⟩ hb
      exact ⟨Nat.le_trans hz hb.size, (hI C pre).of_below hi hb, (hb.block _ (Array.getElem?_eq_some_iff.1 hl).1).trans hl, (hb.block _ (Array.getElem?_eq_some_iff.1 hk).1).trans hk⟩
    · rintro A B ⟨c, hi, hl, hk⟩ hb
      exact ⟨c, (hIx c).of_below hi hb, (hb.block _ (Array.getElem?_eq_some_iff.1 hl).1).trans hl, (hb.block _ (Array.getElem?_eq_some_iff.1 hk).1).trans hk⟩
    · rintro C pre W p v ⟨hz, hi, hl, hk⟩ hp hc
      rw [hz1] at hp
      exact ⟨by simpa [World.setCell] using hz, hIM C pre W p v hi hp hc, (Below.heap_setCell W p v _ (by omega)).trans hl, (Below.heap_setCell W p v _ (by omega)).trans hk⟩
    · rintro C pre x rest W hx ⟨hz, hi, hl, hk⟩
      rw [hz1]
      have hlt : w.heap.size + 1 < W.heap.size := (Array.getElem?_eq_some_iff.1 hl).1
      have hy := run_yield (P := P) (args := encs x) hl (by rw [hrec]; exact hps x)
      rw [hrec] at hy
      refine ⟨fn, _, assign, body, hy, roundIn_of_wpIn hfn (hassign _ x W _ hz fun a1 W' hbA hA1 => ?_)⟩
      have hzA : w.heap.size ≤ W'.heap.size := Nat.le_trans hz hbA.size
      have hiA : I C pre W' := (hI C pre).of_below hi hbA
      have hlA : W'.heap[w.heap.size + 1]? = some (.loop (rec .ready none)) := (hbA.block _ hlt).trans hl
      have hkA : W'.heap[w.heap.size]? = some (.deferred (some [])) := (hbA.block _ (by omega)).trans hk
      have hKA : KeepI n₀ Bs W W' := KeepI.of_below hbA
      have hZA : KeepZ (w.heap.size + 2) C W W' := KeepZ.of_below hbA
      clear hz hi hl hk hbA
      have hltA : w.heap.size + 1 < W'.heap.size := (Array.getElem?_eq_some_iff.1 hlA).1
      refine ⟨_, run_beginRound hlA (by rw [hrec]), ?_⟩
      have hl2 : (W'.putObj (w.heap.size + 1) (.loop { rec .ready none with state := .busy })).heap[w.heap.size + 1]? = some (.loop { rec .ready none with state := .busy }) := World.putObj_heap_same hltA
      have hk2 : (W'.putObj (w.heap.size + 1) (.loop { rec .ready none with state := .busy })).heap[w.heap.size]? = some (.deferred (some [])) := (World.putObj_heap_other (by omega)).trans hkA
      have hB1 : ∀ B ∈ Bs, B < w.heap.size + 1 := fun B hB => Nat.lt_succ_of_lt (hBs B hB)
      have hw2 : KeepI n₀ Bs W' (W'.putObj (w.heap.size + 1) (.loop { rec .ready none with state := .busy })) := keepI_putObj _ (by omega) hB1
      have hZ2 : KeepZ (w.heap.size + 2) C W' (W'.putObj (w.heap.size + 1) (.loop { rec .ready none with state := .busy })) := keepZ_putObj _ (by omega)
      have hi2 : I C pre (W'.putObj (w.heap.size + 1) (.loop { rec .ready none with state := .busy })) := (hI C pre).putObj _ hiA (by omega) hlA rfl
      refine wpIn_mono (hbody _ C pre x rest a1 _ hx (by simpa using hzA) hi2 ((hA x a1).putObj _ hA1 (by omega) hlA rfl)) ?_
      have fin : ∀ (jump : Option Code) (W3 : World), Tame n₀ Bs (W'.putObj (w.heap.size + 1) (.loop { rec .ready none with state := .busy })) W3 →
          (Instr.endRound (w.heap.size + 1) jump).run P W3 = .ok (.bool jump.isNone) (W3.putObj (w.heap.size + 1) (.loop (rec (if jump.isNone then .ready else .done) jump))) ∧
          W3.heap[w.heap.size + 1]? = some (.loop { rec .ready none with state := .busy }) ∧
          (W3.putObj (w.heap.size + 1) (.loop (rec (if jump.isNone then .ready else .done) jump))).heap[w.heap.size + 1]? = some (.loop (rec (if jump.isNone then .ready else .done) jump)) ∧
          (W3.putObj (w.heap.size + 1) (.loop (rec (if jump.isNone then .ready else .done) jump))).heap[w.heap.size]? = some (.deferred (some [])) := fun jump W3 hk3 => by
        have hl3 := hk3.others hl2 rfl
        have := run_endRound (P := P) jump hl3
        rw [hrec] at this ⊢
        exact ⟨this, by rw [hrec] at hl3; exact hl3, World.putObj_heap_same (Array.getElem?_eq_some_iff.1 hl3).1, (World.putObj_heap_other (by omega)).trans (hk3.others hk2 rfl)⟩
      rintro e a3 W3 hp
      cases e with
      | normal =>
        obtain ⟨hk3, hz3, C', hi3, hC'⟩ := hp
        obtain ⟨hr, hl3, hl4, hk4⟩ := fin none W3 hk3
        have hs3 := hk3.size
        simp only [World.putObj_size] at hs3
        have hsz2 := hKA.size
        simp only [World.putObj_size] at hC'
        exact ⟨_, _, hr, .inl ⟨rfl, ⟨C', ⟨by simp only [World.putObj_size]; omega, (hI _ _).putObj _ hi3 (by omega) hl3 rfl, hl4, hk4⟩, fun k hk => by rcases hC' k hk with h | h; exact .inl h; exact .inr (by simp only [World.putObj_size]; omega)⟩, (hKA.trans (hw2.trans hk3.keep)).trans (keepI_putObj _ (by omega) hB1), (hZA.trans (hZ2.trans hz3)).trans (keepZ_putObj _ (by omega))⟩⟩
      | ret =>
        obtain ⟨hk3, hi3⟩ := hp
        obtain ⟨hr, hl3, hl4, hk4⟩ := fin (some .ret) W3 hk3
        exact ⟨_, _, hr, .inr ⟨rfl, .ret, (hIx _).putObj _ hi3 (by omega) hl3 rfl, hl4, hk4⟩⟩
      | exit id =>
        obtain ⟨hk3, hi3⟩ := hp
        obtain ⟨hr, hl3, hl4, hk4⟩ := fin (some (.exit id)) W3 hk3
        exact ⟨_, _, hr, .inr ⟨rfl, .exit id, (hIx _).putObj _ hi3 (by omega) hl3 rfl, hl4, hk4⟩⟩
      | goto t =>
        obtain ⟨hk3, hi3⟩ := hp
        obtain ⟨hr, hl3, hl4, hk4⟩ := fin (some (.goto t)) W3 hk3
        exact ⟨_, _, hr, .inr ⟨rfl, .goto t, (hIx _).putObj _ hi3 (by omega) hl3 rfl, hl4, hk4⟩⟩
      | panic ch => exact hp.elim
      | outgrown => exact hp.elim
    · rintro e W2 ⟨⟨v, rfl⟩, (⟨C, _, hi, hl, hk⟩ | ⟨c, hi, hl, hk⟩)⟩
      · exact ⟨none, _, by have := run_endLoop (P := P) hl (by rw [hrec]; simp); rw [hrec] at this; exact this, hdone _ C _ (Nat.le_refl _) ((hI _ _).putObj _ hi (by omega) hl rfl) ((World.putObj_heap_other (by omega)).trans hk)⟩
      · exact ⟨some c, _, by have := run_endLoop (P := P) hl (by rw [hrec]; simp); rw [hrec] at this; exact this, wpIn_wide.2 (hstop _ c _ (Nat.le_refl _) ((hIx c).putObj _ hi (by omega) hl rfl) ((World.putObj_heap_other (by omega)).trans hk))⟩
end
end Go.Proofs.Ytfcdljnjhljjgaa.Hand
