-- Written by this claim's own program over the kit's print.
import Derived.Test.YtkaiibipcnlaiaaMB
namespace Go.Proofs.Ytkaiibipcnlaiaa.Hand
open Go Go.RowKit Go.Proofs.YtkaiibipcnlaiaaW.PrintWords Go.Proofs.YtkaiibipcnlaiaaW.PrintLast
theorem cz3 {w : World} {g : Nat} {t : TypeId} {cs : Array Value} {v0 v1 v2 : Value} (h : Aside0 (w.heap[g]? = some (.cells cs t (0, 0)))) (e : cs.toList.take 3 = [v0, v1, v2] := by rfl) : w.cell? ⟨g, 0, none⟩ = some v0 ∧ w.cell? ⟨g, 1, none⟩ = some v1 ∧ w.cell? ⟨g, 2, none⟩ = some v2 :=
  ⟨cz_ h e 0 rfl, cz_ h e 1 rfl, cz_ h e 2 rfl⟩
theorem fz3 {w : World} {g : Nat} {t : TypeId} {cs : Array Value} (h : Aside0 (w.heap[g]? = some (.cells cs t (0, 0)))) : w.frozen? ⟨g, 0, none⟩ = false ∧ w.frozen? ⟨g, 1, none⟩ = false ∧ w.frozen? ⟨g, 2, none⟩ = false :=
  ⟨blk_frozen h.out 0, blk_frozen h.out 1, blk_frozen h.out 2⟩
theorem cz5 {w : World} {g : Nat} {t : TypeId} {cs : Array Value} {v0 v1 v2 v3 v4 : Value} (h : Aside0 (w.heap[g]? = some (.cells cs t (0, 0)))) (e : cs.toList.take 5 = [v0, v1, v2, v3, v4] := by rfl) : w.cell? ⟨g, 0, none⟩ = some v0 ∧ w.cell? ⟨g, 1, none⟩ = some v1 ∧ w.cell? ⟨g, 2, none⟩ = some v2 ∧ w.cell? ⟨g, 3, none⟩ = some v3 ∧ w.cell? ⟨g, 4, none⟩ = some v4 :=
  ⟨cz_ h e 0 rfl, cz_ h e 1 rfl, cz_ h e 2 rfl, cz_ h e 3 rfl, cz_ h e 4 rfl⟩
theorem fz5 {w : World} {g : Nat} {t : TypeId} {cs : Array Value} (h : Aside0 (w.heap[g]? = some (.cells cs t (0, 0)))) : w.frozen? ⟨g, 0, none⟩ = false ∧ w.frozen? ⟨g, 1, none⟩ = false ∧ w.frozen? ⟨g, 2, none⟩ = false ∧ w.frozen? ⟨g, 3, none⟩ = false ∧ w.frozen? ⟨g, 4, none⟩ = false :=
  ⟨blk_frozen h.out 0, blk_frozen h.out 1, blk_frozen h.out 2, blk_frozen h.out 3, blk_frozen h.out 4⟩
theorem cz6 {w : World} {g : Nat} {t : TypeId} {cs : Array Value} {v0 v1 v2 v3 v4 v5 : Value} (h : Aside0 (w.heap[g]? = some (.cells cs t (0, 0)))) (e : cs.toList.take 6 = [v0, v1, v2, v3, v4, v5] := by rfl) : w.cell? ⟨g, 0, none⟩ = some v0 ∧ w.cell? ⟨g, 1, none⟩ = some v1 ∧ w.cell? ⟨g, 2, none⟩ = some v2 ∧ w.cell? ⟨g, 3, none⟩ = some v3 ∧ w.cell? ⟨g, 4, none⟩ = some v4 ∧ w.cell? ⟨g, 5, none⟩ = some v5 :=
  ⟨cz_ h e 0 rfl, cz_ h e 1 rfl, cz_ h e 2 rfl, cz_ h e 3 rfl, cz_ h e 4 rfl, cz_ h e 5 rfl⟩
theorem fz6 {w : World} {g : Nat} {t : TypeId} {cs : Array Value} (h : Aside0 (w.heap[g]? = some (.cells cs t (0, 0)))) : w.frozen? ⟨g, 0, none⟩ = false ∧ w.frozen? ⟨g, 1, none⟩ = false ∧ w.frozen? ⟨g, 2, none⟩ = false ∧ w.frozen? ⟨g, 3, none⟩ = false ∧ w.frozen? ⟨g, 4, none⟩ = false ∧ w.frozen? ⟨g, 5, none⟩ = false :=
  ⟨blk_frozen h.out 0, blk_frozen h.out 1, blk_frozen h.out 2, blk_frozen h.out 3, blk_frozen h.out 4, blk_frozen h.out 5⟩
end Go.Proofs.Ytkaiibipcnlaiaa.Hand
