-- Written by this claim's own program over the kit's print.
import Derived.Test.YtfcdljnjhljjgaaHand4
namespace Go.Proofs.Ytfcdljnjhljjgaa.Hand
open Go Go.RowKit Go.Proofs.YtfcdljnjhljjgaaW.PrintWords Go.Proofs.YtfcdljnjhljjgaaW.PrintLast
theorem cz2 {w : World} {g : Nat} {t : TypeId} {cs : Array Value} {v0 v1 : Value} (h : Aside0 (w.heap[g]? = some (.cells cs t (0, 0)))) (e : cs.toList.take 2 = [v0, v1] := by rfl) : w.cell? ⟨g, 0, none⟩ = some v0 ∧ w.cell? ⟨g, 1, none⟩ = some v1 :=
  ⟨cz_ h e 0 rfl, cz_ h e 1 rfl⟩
theorem fz2 {w : World} {g : Nat} {t : TypeId} {cs : Array Value} (h : Aside0 (w.heap[g]? = some (.cells cs t (0, 0)))) : w.frozen? ⟨g, 0, none⟩ = false ∧ w.frozen? ⟨g, 1, none⟩ = false :=
  ⟨blk_frozen h.out 0, blk_frozen h.out 1⟩
theorem cz4 {w : World} {g : Nat} {t : TypeId} {cs : Array Value} {v0 v1 v2 v3 : Value} (h : Aside0 (w.heap[g]? = some (.cells cs t (0, 0)))) (e : cs.toList.take 4 = [v0, v1, v2, v3] := by rfl) : w.cell? ⟨g, 0, none⟩ = some v0 ∧ w.cell? ⟨g, 1, none⟩ = some v1 ∧ w.cell? ⟨g, 2, none⟩ = some v2 ∧ w.cell? ⟨g, 3, none⟩ = some v3 :=
  ⟨cz_ h e 0 rfl, cz_ h e 1 rfl, cz_ h e 2 rfl, cz_ h e 3 rfl⟩
theorem fz4 {w : World} {g : Nat} {t : TypeId} {cs : Array Value} (h : Aside0 (w.heap[g]? = some (.cells cs t (0, 0)))) : w.frozen? ⟨g, 0, none⟩ = false ∧ w.frozen? ⟨g, 1, none⟩ = false ∧ w.frozen? ⟨g, 2, none⟩ = false ∧ w.frozen? ⟨g, 3, none⟩ = false :=
  ⟨blk_frozen h.out 0, blk_frozen h.out 1, blk_frozen h.out 2, blk_frozen h.out 3⟩
end Go.Proofs.Ytfcdljnjhljjgaa.Hand
