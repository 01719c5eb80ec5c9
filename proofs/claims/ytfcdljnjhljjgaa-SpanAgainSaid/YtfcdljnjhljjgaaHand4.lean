/- General laws for printed walks, told shortly: facts carried on to a later world, their steps found by the tactics that the laws name. No condition of its own. -/
import Derived.Test.YtfcdljnjhljjgaaHand3
namespace Go.Proofs.Ytfcdljnjhljjgaa.Hand
open Go Go.RowKit Go.Proofs.YtfcdljnjhljjgaaW.PrintWords Go.Proofs.YtfcdljnjhljjgaaW.PrintLast

section
variable {w W w2 : World} {g g' : Nat} {t : TypeId} {cs cs' : Array Value}
/-- A block that is known, some plain steps later. -/
theorem bx (h : Aside0 (w.heap[g]? = some (.cells cs t (0, 0))))
    (hs : w.heap[g]? = some (.cells cs t (0, 0)) → W.heap[g]? = some (.cells cs t (0, 0)) := by
      intro h_; repeat (first | (with_reducible first | exact h_ | refine blk_drewN ?_ _ | refine blk_drew ?_ | refine blk_alloc ?_ _) | refine blk_far ?_ (Aside0.out (by assumption)) _)) :
    W.heap[g]? = some (.cells cs t (0, 0)) := hs h.out
theorem put_l {l l' : List Value} (h : w.heap[g]? = some (.cells l.toArray t (0, 0))) (i : Nat) (u : Value) (e : l.set i u = l') : (w.setCell ⟨g, i, none⟩ u).heap[g]? = some (.cells l'.toArray t (0, 0)) :=
  blk_put h i u (by subst e; simp)
/-- .. some of whose cells were written. -/
theorem bp {l l' : List Value} (h : Aside0 (w.heap[g]? = some (.cells l.toArray t (0, 0))))
    (hs : w.heap[g]? = some (.cells l.toArray t (0, 0)) → W.heap[g]? = some (.cells l'.toArray t (0, 0)) := by
      intro h_; (repeat (first | (with_reducible first | exact h_ | refine blk_drewN ?_ _ | refine blk_drew ?_ | refine blk_alloc ?_ _ | apply put_l) | refine blk_far ?_ (Aside0.out (by assumption)) _)); all_goals rfl) :
    W.heap[g]? = some (.cells l'.toArray t (0, 0)) := hs h.out
theorem bb (h : Aside0 (w.heap[g]? = some (.cells cs t (0, 0)))) (hb : Below W.heap.size W w2)
    (hs : w.heap[g]? = some (.cells cs t (0, 0)) → W.heap[g]? = some (.cells cs t (0, 0)) := by
      intro h_; repeat (first | (with_reducible first | exact h_ | refine blk_drewN ?_ _ | refine blk_drew ?_ | refine blk_alloc ?_ _) | refine blk_far ?_ (Aside0.out (by assumption)) _)) :
    Aside0 (w2.heap[g]? = some (.cells cs t (0, 0))) := ⟨blk_below (hs h.out) hb⟩
theorem nbl (h : Aside0 (w.heap[g]? = some (.cells cs t (0, 0)))) (hg : g' = W.heap.size)
    (hs : w.heap[g]? = some (.cells cs t (0, 0)) → W.heap[g]? = some (.cells cs t (0, 0)) := by
      intro h_; repeat (first | (with_reducible first | exact h_ | refine blk_drewN ?_ _ | refine blk_drew ?_ | refine blk_alloc ?_ _) | refine blk_far ?_ (Aside0.out (by assumption)) _)) :
    Aside0 (g ≠ g') := ⟨by rw [hg]; exact Nat.ne_of_lt (blk_lt (hs h.out))⟩
theorem nbg (h : Aside0 (w.heap[g]? = some (.cells cs t (0, 0)))) (hg : g' = W.heap.size)
    (hs : w.heap[g]? = some (.cells cs t (0, 0)) → W.heap[g]? = some (.cells cs t (0, 0)) := by
      intro h_; repeat (first | (with_reducible first | exact h_ | refine blk_drewN ?_ _ | refine blk_drew ?_ | refine blk_alloc ?_ _) | refine blk_far ?_ (Aside0.out (by assumption)) _)) :
    Aside0 (g' ≠ g) := ⟨by rw [hg]; exact Nat.ne_of_gt (blk_lt (hs h.out))⟩
theorem bc (h : Aside0 (w.heap[g]? = some (.cells cs t (0, 0)))) (i : Nat) {v : Value} (e : cs[i]? = some v := by rfl) : w.cell? ⟨g, i, none⟩ = some v := (blk_cell h.out i).trans e
theorem cz_ (h : Aside0 (w.heap[g]? = some (.cells cs t (0, 0)))) {n : Nat} {vs : List Value} (e : cs.toList.take n = vs) (i : Nat) {v : Value} (hv : vs[i]? = some v) : w.cell? ⟨g, i, none⟩ = some v := by
  rw [blk_cell h.out i]
  subst e
  rw [List.getElem?_take] at hv
  split at hv
  · simpa using hv
  · cases hv
theorem cfa {a : Addr} {j : Nat} {u : Value} {v : Option Value} (h : a.block ≠ g) (e : W.cell? a = v) : (W.setCell ⟨g, j, none⟩ u).cell? a = v := (cell_far (p := ⟨g, j, none⟩) h u).trans e
end
section
variable {w W w2 : World} {g : Nat}
/-- What lies below, some plain steps later. -/
theorem bw (h : Aside0 (Below w.heap.size w W))
    (hs : Below w.heap.size w W → Below w.heap.size w w2 := by
      intro h_; repeat (first | (with_reducible first | exact h_ | apply below_alloc | apply pw_below_drewN | apply below_drew1 | refine below_set ?_ (Aside0.out (by assumption))) | exact h_)) : Below w.heap.size w w2 := hs h.out
theorem bh {w3 : World} (h : Aside0 (Below w.heap.size w W)) (hb : Below w2.heap.size w2 w3)
    (hs : Below w.heap.size w W → Below w.heap.size w w2 := by
      intro h_; repeat (first | (with_reducible first | exact h_ | apply below_alloc | apply pw_below_drewN | apply below_drew1 | refine below_set ?_ (Aside0.out (by assumption))) | exact h_)) : Aside0 (Below w.heap.size w w3) := ⟨below_step (hs h.out) hb⟩
theorem bge (h : Aside0 (Below w.heap.size w W)) (hg : g = w2.heap.size)
    (hs : Below w.heap.size w W → Below w.heap.size w w2 := by
      intro h_; repeat (first | (with_reducible first | exact h_ | apply below_alloc | apply pw_below_drewN | apply below_drew1 | refine below_set ?_ (Aside0.out (by assumption))) | exact h_)) : Aside0 (w.heap.size ≤ g) := ⟨by rw [hg]; exact below_size (hs h.out)⟩
theorem rx {α : Type} {d : Kd α} {e base : Nat} {ok : Nat → Prop} {v : Value} {xs : List α} (h : Aside0 (d.R e w base ok v xs))
    (hs : d.R e w base ok v xs → d.R e W base ok v xs := by
      intro h_; with_reducible repeat (first | exact h_ | apply Kd.R_alloc | apply Kd.R_drewN | apply Kd.R_drew)) : d.R e W base ok v xs := hs h.out
end
section
variable {P : Program} {ops : Array Oper} {Q : Exit → Act → World → Prop}
theorem goesB {rest : List Oper} {oi : Oper} {a : Act} {w : World} (N : Option Tmp) (hd : oi.dst = N) (hg : oi.guard = none) {f : FuncId} {fn : Func} {ps : Array Operand} {ts : Array TypeId} (hf : P.funcs[f]? = some fn) (args : Array Value)
    (hop : oi.op = .call { callee := .value (.func f), args := ps, argTypes := ts }) (h : Calls P f args w fun e w' => ∃ v, e = .returned v ∧ wpList P ops Q rest (a.put N v) w')
    (hname : (fn.name == "runtime.NumGoroutine") = false := by kernel_rfl) (hb : fn.body.isSome = true := by rfl)
    (hargs : ps.map a.eval = args := by ((try simp only [List.map_toArray, List.map_cons, List.map_nil]); first | done | rfl | (simp only [List.length_drop, List.length_take]; rfl))) : wpList P ops Q (oi :: rest) a w :=
  goesL_ N hd hg hf hname hb args hop hargs h
end
end Go.Proofs.Ytfcdljnjhljjgaa.Hand
