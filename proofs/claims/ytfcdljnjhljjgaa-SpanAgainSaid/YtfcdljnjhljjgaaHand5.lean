/- General laws on rows that are read while loops over iterators run. No condition of its own. -/
import Derived.Test.YtfcdljnjhljjgaaHand3
import Derived.Laws.Entries
import Derived.Test.YtfcdljnjhljjgaaWRepsOne
namespace Go.Proofs.Ytfcdljnjhljjgaa.Hand
open Go Go.RowKit Go.Proofs.YtfcdljnjhljjgaaW.PrintWords Go.Proofs.YtfcdljnjhljjgaaW.PrintLast
section
variable {α : Type} {d : Kd α} {n₀ n : Nat} {Bs : List Nat} {w w' : World} {A : Option Addr} {xs : List α}
/-- What lies below, and is read cell by cell, is read as before. -/
theorem C_keepI (hd : ∀ {W W' : World} {x : α} {cs : List Value}, d.K W x cs → d.K W' x cs) (h : d.C w A n xs) (hA : ∀ ad, A = some ad → 0 < n → ad.block < n₀) (hk : KeepI n₀ Bs w w') : d.C w' A n xs :=
  ⟨h.1, h.2.1, fun hn => by
    obtain ⟨ad, e, hc⟩ := h.2.2 hn
    refine ⟨ad, e, fun j p hp => ?_⟩
    obtain ⟨c, hcl, hK, hcell⟩ := hc j p hp
    exact ⟨c, hcl, hd hK, fun i u hu => hk.cell (.inl (by rw [add_block]; exact hA ad e hn)) (hcell i u hu)⟩⟩
theorem KeepI.below {A B C : World} (h : KeepI n₀ Bs A B) (k : Below B.heap.size B C) : KeepI n₀ Bs A C := h.trans (KeepI.of_below k)
theorem boxed_keepI {b : Nat} {t : TypeId} {v : Value} (h : Boxed w b t v) (hk : KeepI n₀ Bs w w') (hb : b < n₀ ∨ b ∈ Bs) : Boxed w' b t v := (hk.block b (Array.getElem?_eq_some_iff.1 h).1 hb).trans h
theorem boxed_below {b : Nat} {t : TypeId} {v : Value} (h : Boxed w b t v) (hk : Below w.heap.size w w') : Boxed w' b t v := (hk.block b (Array.getElem?_eq_some_iff.1 h).1).trans h
end
section
variable {P : Program} {fn : Func} {w : World}
/-- Results that lie in two cells: a slice, and a number. -/
theorem results_si {p q : Tmp} {ty ty' e : TypeId} {k : IntKind} (h : fn.results = #[.cell p ty, .cell q ty']) (hu : P.underlying ty = some (.slice e)) (hu' : P.underlying ty' = some (.int k))
    (tmps : Array Value) (w : World) (g g' : Nat) (v v' : Value) (hp : tmps.getD p undef = .pointer (some ⟨g, 0, none⟩)) (hq : tmps.getD q undef = .pointer (some ⟨g', 0, none⟩)) (hv : w.cell? ⟨g, 0, none⟩ = some v) (hv' : w.cell? ⟨g', 0, none⟩ = some v') :
    (results fn tmps).run P w = .ok (.tuple #[v, v']) w := by
  have h1 : tmps[p]?.getD undef = .pointer (some ⟨g, 0, none⟩) := by simpa using hp
  have h2 : tmps[q]?.getD undef = .pointer (some ⟨g', 0, none⟩) := by simpa using hq
  have e1 := run_underlying hu
  have e2 := run_underlying hu'
  simp [results, h, h1, h2, asAddr, loadVar, isAgg, e1, e2, go_sem, hv, hv']
theorem leave_si {F : Fence} {n : Nat} {tmps : Array Value} {R : Ending → World → Prop} {p q : Tmp} {ty ty' e : TypeId} {k : IntKind} (h : fn.results = #[.cell p ty, .cell q ty']) (hu : P.underlying ty = some (.slice e)) (hu' : P.underlying ty' = some (.int k))
    (g g' : Nat) (v v' : Value) (hp : tmps.getD p undef = .pointer (some ⟨g, 0, none⟩)) (hq : tmps.getD q undef = .pointer (some ⟨g', 0, none⟩)) (hv : w.cell? ⟨g, 0, none⟩ = some v) (hv' : w.cell? ⟨g', 0, none⟩ = some v')
    (hR : R (.returned (.tuple #[v, v'])) w) : LeavesInM F n P fn tmps R [] .returning w := ⟨_, results_si h hu hu' tmps w g g' v v' hp hq hv hv', hR⟩
end
theorem addr_add_zero' (b : Nat) : (⟨b, 0, none⟩ : Addr).add 0 = ⟨b, 0, none⟩ := by unfold Addr.add; split <;> simp_all
/-- A row of one number that has just been made. -/
theorem C_one {k : IntKind} (w : World) (t : TypeId) (x : Int) : Kd.C (Kd.int k) (w.alloc (.cells #[.int k x] t)) (some ⟨w.heap.size, 0, none⟩) ([x] : List Int).length [x] :=
  ⟨rfl, by simp, fun _ => ⟨_, rfl, fun j p hp => by
    obtain ⟨rfl, rfl⟩ : j = 0 ∧ p = x := by
      cases j with
      | zero => simpa using hp.symm
      | succ j => simp at hp
    exact ⟨[.int k p], rfl, rfl, fun i u hu => by
      cases i with
      | zero =>
        simp only [List.getElem?_cons_zero, Option.some.injEq] at hu
        subst hu
        have := (Boxed.new w t (.int k p)).cell
        rw [show 0 * (Kd.int k).sz + 0 = 0 by simp, addr_add_zero']
        exact this
      | succ i => simp at hu⟩⟩⟩
theorem R_one {k : IntKind} (w : World) (e : TypeId) (x : Int) (base : Nat) (ok : Nat → Prop) (hb : base ≤ w.heap.size) (hok : ok w.heap.size) : Kd.R (Kd.int k) e (w.alloc (.cells #[.int k x] e)) base ok (.slice (some ⟨w.heap.size, 0, none⟩) 1 1) [x] :=
  ⟨fun j hj => by simp [Value.ownBlock] at hj; exact hj ▸ hok, [.int k x], by
    have := World.ownsRow_lit (base := base) (e := e) (size := 1) w #[.int k x] 1 hb (by simp [maxLen]) (by simp)
    rw [show (Kd.int k).sz = 1 from rfl]
    simpa using this, Reps.one (show Kd.M (Kd.int k) _ _ _ x [.int k x] from rfl) (Reps.none _ _)⟩
theorem boxed_new (w : World) (b : Nat) (t : TypeId) (v : Value) (h : w.heap.size = b) : Boxed (w.alloc (.cells #[v] t)) b t v := by
  subst h
  exact Boxed.new w t v
theorem boxed_set {w : World} {b : Nat} {t : TypeId} {v : Value} (h : Boxed w b t v) (u : Value) : Boxed (w.setCell ⟨b, 0, none⟩ u) b t u := h.set u
end Go.Proofs.Ytfcdljnjhljjgaa.Hand
