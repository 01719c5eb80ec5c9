/- General laws on rows that a call owns, behind loops over iterators, and on how a function that held such loops returns. No condition of its own. -/
import Derived.Test.YtfcdljnjhljjgaaHand0
import Derived.Test.YtfcdljnjhljjgaaWWords
import Derived.Test.YtfcdljnjhljjgaaWLast
namespace Go.Proofs.Ytfcdljnjhljjgaa.Hand
open Go Go.RowKit Go.Proofs.YtfcdljnjhljjgaaW.PrintWords Go.Proofs.YtfcdljnjhljjgaaW.PrintLast

theorem Bide.row {α : Type} {B : Nat} (d : Kd α) (e base : Nat) (ok : Nat → Prop) (v : Value) (xs : List α) : Bide B (fun W => d.R e W base ok v xs) := fun W W' row hs hg hr => by
  refine Kd.R_mono (Kd.R_move (Kd.R_bound hs) (fun k hk => hg.block k hk.2.2.1 (fun e' => ?_))) (fun k hk => hk.1)
  obtain ⟨_, o, ho, hc⟩ := hr k e'.symm
  obtain ⟨_, _, _, q, _, cells, hc'⟩ := hk
  rw [hc'] at ho
  cases ho
  cases hc

/-- A row of numbers, bools or texts that has just been made, without elements. -/
theorem row_of_own {α : Type} {d : Kd α} {e base : Nat} {ok : Nat → Prop} {w : World} {v : Value} (h : w.ownsRow base e d.sz v 0 []) (hok : ∀ k, v.ownBlock = some k → ok k) : d.R e w base ok v [] := ⟨hok, [], h, Reps.none _ _⟩
/-- A row of the call's own grows, or another block stays what it was. -/
theorem Tame.appended {α : Type} {n₀ : Nat} {Bs : List Nat} {A W W1 : World} {d : Kd α} {e base : Nat} {ok : Nat → Prop} {v : Value} {xs : List α} (h : Tame n₀ Bs A W) (hr : d.R e W base ok v xs) (hg : W.grownBy W1 v.ownBlock)
    (hn : n₀ ≤ base) (hB : ∀ B ∈ Bs, ¬ ok B ∨ ∃ cs t, W.heap[B]? = some (.cells cs t (0, 0)) ∧ e ≠ t) : Tame n₀ Bs A W1 := h.grown hg fun k hk => by
  obtain ⟨inner, ho⟩ := Kd.R_own hr
  refine ⟨Nat.le_trans hn (own_base ho k hk), fun hm => ?_, fun o hko => ?_⟩
  · rcases hB k hm with h1 | ⟨cs, t, h1, h2⟩
    · exact h1 (hr.1 k hk)
    · exact Kd.R_ne hr h1 (by exact h2) hk.symm
  · obtain ⟨cells, hc⟩ := own_typed ho k hk
    rw [hc] at hko
    cases hko
    rfl
/-- A block of cells that the row isn't. -/
theorem blk_appended {α : Type} {W W1 : World} {d : Kd α} {e base : Nat} {ok : Nat → Prop} {v : Value} {xs : List α} {b : Nat} {cs : Array Value} {t : TypeId} (hb : W.heap[b]? = some (.cells cs t (0, 0))) (hr : d.R e W base ok v xs) (hg : W.grownBy W1 v.ownBlock) (hne : e ≠ t ∨ ¬ ok b) :
    W1.heap[b]? = some (.cells cs t (0, 0)) := blk_grown hb hg (fun hk => by
  rcases hne with h1 | h1
  · exact Kd.R_ne hr hb h1 hk
  · exact h1 (hr.1 b hk.symm))
theorem row_putObj {α : Type} {d : Kd α} {e base : Nat} {ok : Nat → Prop} {v : Value} {xs : List α} {w : World} {D : Nat} {o : Obj} (o' : Obj) (h : d.R e w base ok v xs) (hD : w.heap[D]? = some o) (ho : o.isCells = false) : d.R e (w.putObj D o') base ok v xs :=
  (Bide.row (B := 0) d e base ok v xs).putObj o' h (Nat.zero_le _) hD ho
theorem below_putObj {n₀ : Nat} {w0 w : World} {D : Nat} (o : Obj) (h : Below n₀ w0 w) (hD : n₀ ≤ D) : Below n₀ w0 (w.putObj D o) :=
  h.trans ⟨rfl, rfl, rfl, by simp, fun k hk => World.putObj_heap_other (by omega)⟩
theorem blk_putObj {w : World} {b D : Nat} {o : Obj} (o' : Obj) (h : w.heap[b]? = some o) (hne : b ≠ D) : (w.putObj D o').heap[b]? = some o := (World.putObj_heap_other hne).trans h

theorem Bide.deferred {B D : Nat} (hD : D < B) : Bide B (fun W => W.heap[D]? = some (.deferred (some []))) := fun W W' row hs hg hr =>
  (hg.block D (Array.getElem?_eq_some_iff.1 hs).1 (fun e => by have := (hr D e.symm).1; omega)).trans hs

section
variable {F : Fence} {n : Nat} {P : Program} {fn : Func} {tmps : Array Value} {R : Ending → World → Prop} {w : World}
theorem leave1 {t : Tmp} (h : fn.results = #[.tmp t]) (hR : R (.returned (tmps.getD t undef)) w) : LeavesInM F n P fn tmps R [] .returning w := ⟨_, results_tmp h _ _ _, hR⟩
theorem leave2 {t u : Tmp} (h : fn.results = #[.tmp t, .tmp u]) (hR : R (.returned (.tuple #[tmps.getD t undef, tmps.getD u undef])) w) : LeavesInM F n P fn tmps R [] .returning w := ⟨_, results_tmp2 h _ _ _, hR⟩
theorem leave3 {t u v : Tmp} (h : fn.results = #[.tmp t, .tmp u, .tmp v]) (hR : R (.returned (.tuple #[tmps.getD t undef, tmps.getD u undef, tmps.getD v undef])) w) : LeavesInM F n P fn tmps R [] .returning w := ⟨_, results_tmp3 h _ _ _, hR⟩
theorem leave_mark {D : Nat} {ds : List Deferred} (hK : w.heap[D]? = some (.deferred (some []))) (h : LeavesInM F n P fn tmps R ds .returning (w.putObj D (.deferred none))) :
    LeavesInM F n P fn tmps R ({ target := .collected D, args := #[] } :: ds) .returning w := ⟨by simp, .inl ⟨_, _, rfl, run_takeDeferred hK, h⟩⟩
end

/-- What is read of a slice lay in the world. -/
theorem block_of_C {α : Type} {d : Kd α} {w : World} {A : Option Addr} {n : Nat} {xs : List α} (h : d.C w A n xs) (z : α) (hz : 0 < d.sz) : ∀ ad, A = some ad → 0 < n → ad.block < w.heap.size := by
  intro ad e hn
  obtain ⟨ad', c, e', hcl, hK, hc⟩ := Kd.C_get h z 0 (by omega) (by omega)
  obtain rfl : ad' = ad := by rw [e] at e'; cases e'; rfl
  have hl := d.K_len hK
  have h0 := hc 0 (c[0]'(by omega)) (by simp)
  have := World.block_lt_of_cell? w _ h0
  rwa [add_block] at this

/-! ### A region that draws its order: reads, then one operation that lays memory (what is to be appended), then an append and a store -/
section
variable {P : Program} {ops : Array Oper} {Q : Exit → Act → World → Prop} {S : World → Prop} {ds : List Nat}

/-- Each operation yields one value in every world of the class S, and leaves the world alone. -/
def wpHeld (P : Program) (ops : Array Oper) (S : World → Prop) (K : Act → Prop) : List Oper → Act → Prop
  | [], a => K a
  | o :: r, a => if Region.wanted o (yielded ops a.tmps) then ∃ v, (∀ w, S w → (execOp a.eval o).run P w = .ok (.value v) w) ∧ wpHeld P ops S K r (a.put o.dst v) else wpHeld P ops S K r (a.put o.dst undef)

def headB (ops : Array Oper) (ds : List Nat) : Nat → Nat → Array Bool → Bool
  | 0, k, l => decide (Region.ready .any ops l = [k])
  | n + 1, i, l => Region.free .any ops l i && (Region.ready .any ops l).contains i && Region.closedB .any ops l && Region.lastB .any ops l ds i && headB ops ds n (i + 1) (l.setIfInBounds i true)
def restB (ops : Array Oper) (ds : List Nat) : Nat → Nat → Array Bool → Bool
  | 0, _, l => (Region.ready .any ops l).isEmpty
  | n + 1, i, l => decide (Region.ready .any ops l = [i]) && ds.contains i && restB ops ds n (i + 1) (l.setIfInBounds i true)
/-- The first k operations only read; the next one lays memory; those of ds follow, in one order. -/
def appendB (ops : Array Oper) (ds : List Nat) (k : Nat) : Bool :=
  Region.noSelect ops && decide (k < ops.size) && !ds.contains k && headB ops ds k 0 (Array.replicate ops.size false) &&
    restB ops ds (ops.size - (k + 1)) (k + 1) (((List.range (k + 1)).foldl (fun l i => l.setIfInBounds i true)) (Array.replicate ops.size false))

/-- How the middle one may end. -/
def midQ (P : Program) (ops : Array Oper) (Q : Exit → Act → World → Prop) (S : World → Prop) (rest : List Oper) : Exit → Act → World → Prop
  | .normal, a, w => S w ∧ wpList P ops Q rest a w
  | .panic c, a, w => Q (.panic c) a w
  | _, _, _ => False

theorem last_of_list (hQ : ∀ a w, ¬ Q .outgrown a w) : ∀ (l : List Oper) (i : Nat) (listed : Array Bool) (a : Act) (w : World), (∀ j, l[j]? = ops[i + j]?) → restB ops ds l.length i listed = true → wpList P ops Q l a w →
    wpAnyLast P .any ops Q S ds l.length listed a w
  | [], _, _, _, _, _, hB, h => ⟨by simpa [restB] using hB, h⟩
  | o :: l, i, listed, a, w, hl, hB, h => by
    have h0 : ops[i]? = some o := by simpa using (hl 0).symm
    simp only [List.length_cons, restB, Bool.and_eq_true, decide_eq_true_eq] at hB
    obtain ⟨⟨h1, h2⟩, h3⟩ := hB
    have hm : i ∈ ds := by simpa using h2
    refine wpAnyLast_ready h1 (by simp) (AllReadyL.cons_last h0 hm (fun K hK => ?_) AllReadyL.nil)
    have hK' : ∀ a w, wpList P ops Q l a w → K a w := fun a w h' => hK.out a w (last_of_list hQ l (i + 1) _ a w (fun j => by have := hl (j + 1); simpa [Nat.add_assoc, Nat.add_comm 1 j] using this) h3 h')
    unfold wpList at h
    split
    · rename_i hw
      rw [if_pos hw] at h
      rcases h with h | ⟨_, a', w', h⟩
      · exact Oper.wp_mono hK' h
      · exact absurd h (hQ a' w')
    · rename_i hw
      rw [if_neg hw] at h
      exact hK' _ _ h

theorem head_of_held (hs : Region.noSelect ops = true) (hQp : ∀ c a w, ¬ Q (.panic c) a w) {w : World} (hS : S w) (fuel k : Nat) (L : Act → Prop) :
    ∀ (l : List Oper) (i : Nat) (listed : Array Bool) (a : Act), (∀ j, j < l.length → l[j]? = ops[i + j]?) → i + l.length = k → headB ops ds l.length i listed = true →
      (∀ listed' a', Region.ready .any ops listed' = [k] → (List.range' i l.length).foldl (fun l i => l.setIfInBounds i true) listed = listed' → L a' → wpAnyLast P .any ops Q S ds fuel listed' a' w) →
      wpHeld P ops S L l a → wpAnyLast P .any ops Q S ds (l.length + fuel) listed a w
  | [], i, listed, a, _, hk, hB, hL, h => by
    have : i = k := by simpa using hk
    subst this
    simp only [List.length_nil, headB, decide_eq_true_eq] at hB
    simpa using hL listed a hB (by simp) h
  | o :: l, i, listed, a, hl, hk, hB, hL, h => by
    have h0 : ops[i]? = some o := by simpa using (hl 0 (by simp)).symm
    simp only [List.length_cons, headB, Bool.and_eq_true] at hB
    obtain ⟨⟨⟨⟨h1, h2⟩, h3⟩, h4⟩, h5⟩ := hB
    rw [show (o :: l).length + fuel = (l.length + fuel) + 1 by simp only [List.length_cons]; omega]
    have ih := fun a' => head_of_held hs hQp hS fuel k L l (i + 1) (listed.setIfInBounds i true) a' (fun j hj => by have := hl (j + 1) (by simp; omega); simpa [Nat.add_assoc, Nat.add_comm 1 j] using this) (by simp only [List.length_cons] at hk; omega) h5
      (fun listed' a' hr hf => hL listed' a' hr (by rw [List.length_cons, List.range'_succ, List.foldl_cons]; exact hf))
    unfold wpHeld at h
    by_cases hw : Region.wanted o (yielded ops a.tmps) = true
    · rw [if_pos hw] at h
      obtain ⟨v, hv, h⟩ := h
      exact wpAnyLast_take h0 hs h1 h2 h3 h4 (fun c a w hp => absurd hp (hQp _ _ _)) (.inl ⟨hw, hv⟩) hS (ih _ h)
    · rw [if_neg hw] at h
      exact wpAnyLast_take h0 hs h1 h2 h3 h4 (fun c a w hp => absurd hp (hQp _ _ _)) (.inr ⟨by simpa using hw, rfl⟩) hS (ih _ h)

theorem any_append {ls : List Oper} {a : Act} {w : World} (k : Nat) (ds : List Nat) (S : World → Prop) (hQ : ∀ a w, ¬ Q .outgrown a w) (hQp : ∀ c a w, ¬ Q (.panic c) a w) (hB : appendB ls.toArray ds k = true) (hS : S w)
    (h : wpHeld P ls.toArray S (fun a1 => wpList P ls.toArray (midQ P ls.toArray Q S (ls.drop (k + 1))) ((ls.drop k).take 1) a1 w) (ls.take k) a) :
    wpAny P .any ls.toArray Q ls.toArray.size (Array.replicate ls.toArray.size false) a w := by
  simp only [appendB, Bool.and_eq_true, decide_eq_true_eq, Bool.not_eq_true'] at hB
  obtain ⟨⟨⟨⟨hsel, hn⟩, hkd⟩, hh⟩, hr⟩ := hB
  have hn' : k < ls.length := by simpa using hn
  have htl : (ls.take k).length = k := by simp; omega
  have hfu : ls.toArray.size = (ls.take k).length + ((ls.drop (k + 1)).length + 1) := by rw [htl]; simp; omega
  refine wpAny_of_last (S := S) (ds := ds) _ _ _ _ ?_
  have hrep : (Array.replicate ls.toArray.size false) = (Array.replicate ls.toArray.size false) := rfl
  generalize hl0 : (Array.replicate ls.toArray.size false) = l0 at hh hr ⊢
  rw [hfu]
  refine head_of_held hsel hQp hS _ k _ (ls.take k) 0 l0 a (fun j hj => ?_) (by simpa using htl) (by rw [htl]; exact hh) ?_ h
  · have hj' : j < k := by rw [htl] at hj; exact hj
    simp [hj']
  · intro listed' a1 hrd hf hmid
    rw [htl, ← List.range_eq_range'] at hf
    have hd : ls.drop k = ls[k] :: ls.drop (k + 1) := List.drop_eq_getElem_cons hn'
    have hdk : (ls.drop k).take 1 = [ls[k]] := by rw [hd]; rfl
    rw [hdk] at hmid
    have h0 : ls.toArray[k]? = some ls[k] := by simp [hn']
    have hkm : k ∉ ds := by simpa using hkd
    rw [List.range_succ, List.foldl_append, hf] at hr
    have hdl : (ls.drop (k + 1)).length = ls.toArray.size - (k + 1) := by simp
    refine wpAnyLast_ready hrd (by simp) (AllReadyL.cons h0 hkm (fun K hK => ?_) AllReadyL.nil)
    have hK' : ∀ a w, (wpList P ls.toArray (midQ P ls.toArray Q S (ls.drop (k + 1))) [] a w) → K a w := fun a w h' =>
      hK.out a w h'.1 (fun _ => last_of_list hQ (ls.drop (k + 1)) (k + 1) _ a w (fun j => by simp [List.getElem?_drop]) (by rw [hdl]; exact hr) h'.2)
    unfold wpList at hmid
    split
    · rename_i hw
      rw [if_pos hw] at hmid
      rcases hmid with hm | ⟨_, a', w', hm⟩
      · have hm2 := Oper.wp_mono hK' hm
        unfold Oper.wp at hm2 ⊢
        generalize (execOp a1.eval ls[k]).run P w = r at hm2 ⊢
        cases r with
        | ok x w' =>
          cases x <;> simp only [Oper.upon] at hm2 ⊢ <;> first | exact hm2 | exact hm2.mono (fun e w'' he => by cases e <;> first | exact he | (obtain ⟨a', w', h'⟩ := he; exact h'.elim)) | exact hm2.elim
        | halt x w' => cases x <;> simp only [Oper.upon] at hm2 ⊢ <;> exact hm2
      · exact hm.elim
    · rename_i hw
      rw [if_neg hw] at hmid
      exact hK' _ _ hmid

theorem round_append {ls : List Oper} {a : Act} {w : World} {l n id : Nat} (k : Nat) (ds : List Nat) (S : World → Prop) (hm : P.follows .mixedOrders = true) (hQ : ∀ a w, ¬ Q .outgrown a w) (hQp : ∀ c a w, ¬ Q (.panic c) a w) (hd : noDefer ls = true) (hB : appendB ls.toArray ds k = true) (hS : S w.drew)
    (h : wpHeld P ls.toArray S (fun a1 => wpList P ls.toArray (midQ P ls.toArray Q S (ls.drop (k + 1))) ((ls.drop k).take 1) a1 w.drew) (ls.take k) a) : (Code.region id ls.toArray true).wpIn (RF l) n P Q a w :=
  round_any hm hQ hd (any_append k ds S hQ hQp hB hS h)

theorem held_nil {K : Act → Prop} {a : Act} (h : K a) : wpHeld P ops S K [] a := h
theorem held_step {K : Act → Prop} {a : Act} {o : Oper} {r : List Oper} (hw : Region.wanted o (yielded ops a.tmps) = true) (h : ∃ v, (∀ w, S w → (execOp a.eval o).run P w = .ok (.value v) w) ∧ wpHeld P ops S K r (a.put o.dst v)) : wpHeld P ops S K (o :: r) a := by
  unfold wpHeld
  rw [if_pos hw]
  exact h
end
end Go.Proofs.Ytfcdljnjhljjgaa.Hand
