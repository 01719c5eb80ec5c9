/- General laws: a region that draws its order, inside a fence, told in phases: what only reads, then one operation, then what only reads, and so on. No condition of its own. -/
import Derived.Test.YtfcdljnjhljjgaaHand8
import Derived.StillTail
import Derived.OrdersIn
namespace Go.Proofs.Ytfcdljnjhljjgaa.Hand
open Go Go.RowKit Go.Proofs.YtfcdljnjhljjgaaW.PrintWords Go.Proofs.YtfcdljnjhljjgaaW.PrintLast
section
variable {P : Program} {ops : Array Oper} {md : Region.Mode} {w : World}
/-- Each of what lies between waits to be waited for, up to the one operation; and whatever stands behind that one waits for it, or for what stands behind it. -/
def sinkPB (md : Region.Mode) (ops : Array Oper) (k p : Nat) : Bool := (List.range p).all fun i => decide (i < k) || (List.range (p + 1)).any fun j => decide (i < j) && Region.waitsFor md ops j i
def chainPB (md : Region.Mode) (ops : Array Oper) (p : Nat) : Bool := (List.range ops.size).all fun t => decide (t ≤ p) || (List.range t).any fun u => decide (p ≤ u) && Region.waitsFor md ops t u
theorem phase_waits {k p : Nat} {listed : Array Bool} (hs : sinkPB md ops k p = true) (hc : chainPB md ops p = true) (inv : HeadInv md ops p listed) (hp : p < ops.size) :
    ∀ (d i : Nat), p - i = d → k ≤ i → i < p → listed.getD i true = false → ∀ t, p ≤ t → t ∉ Region.ready md ops listed := by
  intro d
  induction d using Nat.strongRecOn with
  | _ d ih =>
    intro i hd hki hi hun t ht hr
    obtain ⟨_, ot, hot, hall⟩ := mem_ready.1 hr
    have htlt : t < ops.size := (Array.getElem?_eq_some_iff.1 hot).1
    by_cases htp : t = p
    · subst htp
      have h1 := List.all_eq_true.1 hs i (List.mem_range.2 hi)
      simp only [Bool.or_eq_true, decide_eq_true_eq] at h1
      rcases h1 with h1 | h1
      · omega
      · obtain ⟨j, hj, hj2⟩ := List.any_eq_true.1 h1
        simp only [Bool.and_eq_true, decide_eq_true_eq] at hj2
        obtain ⟨oj, hoj, e, he, hb, hon⟩ := Region.waitsFor_spec hj2.2
        have hjle : j ≤ t := by have := List.mem_range.1 hj; omega
        by_cases hjt : j = t
        · subst hjt
          have : oj = ot := Option.some.inj (hoj.symm.trans hot)
          subst this
          have h2 := hall e he hb
          rw [hon, getD_both hun] at h2
          cases h2
        · cases hl : listed.getD j false with
          | true =>
            have h2 := inv.closed j oj hoj hl e he hb
            rw [hon, getD_both hun] at h2
            cases h2
          | false =>
            have hjs : j < listed.size := by rw [inv.size]; omega
            exact ih (t - j) (by omega) j rfl (by omega) (by omega) (getD_in hjs hl) t (Nat.le_refl _) hr
    · have h1 := List.all_eq_true.1 hc t (List.mem_range.2 htlt)
      simp only [Bool.or_eq_true, decide_eq_true_eq] at h1
      rcases h1 with h1 | h1
      · omega
      · obtain ⟨u, hu, hu2⟩ := List.any_eq_true.1 h1
        simp only [Bool.and_eq_true, decide_eq_true_eq] at hu2
        have hut := List.mem_range.1 hu
        obtain ⟨o', ho', e, he, hb, hon⟩ := Region.waitsFor_spec hu2.2
        have : o' = ot := Option.some.inj (ho'.symm.trans hot)
        subst this
        have h2 := hall e he hb
        rw [hon, getD_both (inv.tail u hu2.1 (by omega))] at h2
        cases h2
theorem phase_first {k p i : Nat} {oi : Oper} {v : Value} {L : Array Bool → Act → Prop} (hi : ops[i]? = some oi) (hsel : ∀ (j : Nat) (o : Oper) cs b, ops[j]? = some o → o.op ≠ .select cs b)
    (hs : sinkPB md ops k p = true) (hc : chainPB md ops p = true) (hp : p < ops.size) (hki : k ≤ i) (hip : i < p) (hdone : ∀ listed a, L listed a → ∀ j ∈ Region.ready md ops listed, p ≤ j) :
    ∀ (f : Nat) (listed : Array Bool) (a : Act), HeadInv md ops p listed →
      (∀ j oj, ops[j]? = some oj → j ≠ i → listed.getD j true = false → (∀ e ∈ oj.after, Region.binds md e = true → e.on ≠ i) → oi.apart ops oj = true) →
      i ∈ Region.ready md ops listed → YieldsAt P ops w oi v a →
      wpAnyL P md ops w p L f (listed.setIfInBounds i true) (a.put oi.dst v) → wpAnyL P md ops w p L (f + 1) listed a := by
  intro f
  induction f with
  | zero =>
    intro listed a inv _ hr hy H
    have hun := (mem_ready.1 hr).1
    refine ⟨fun h => (by rw [h] at hr; cases hr), fun j hj => ?_⟩
    have hjp : j < p := by
      rcases Nat.lt_or_ge j p with h | h
      · exact h
      · exact absurd hj (phase_waits hs hc inv hp _ i rfl hki hip hun j h)
    refine ⟨hjp, ?_⟩
    by_cases hji : j = i
    · subst hji; exact hy.stOp hi H
    · have := hdone _ _ H j (ready_mono hj hji)
      omega
  | succ f ih =>
    intro listed a inv hfree hr hy H
    have hun := (mem_ready.1 hr).1
    refine ⟨fun h => (by rw [h] at hr; cases hr), fun j hj => ?_⟩
    have hjp : j < p := by
      rcases Nat.lt_or_ge j p with h | h
      · exact h
      · exact absurd hj (phase_waits hs hc inv hp _ i rfl hki hip hun j h)
    refine ⟨hjp, ?_⟩
    by_cases hji : j = i
    · subst hji; exact hy.stOp hi H
    · have h1 := (H.2 j (ready_mono hj hji)).2
      obtain ⟨hjun, oj, hoj, hall⟩ := mem_ready.1 hj
      have hnot : ∀ e ∈ oj.after, Region.binds md e = true → e.on ≠ i := fun e he hb heq => by
        have h1 := hall e he hb
        rw [heq, getD_both hun] at h1
        cases h1
      have h2 := stOp_put hoj (hfree j oj hoj hji hjun hnot) (fun cs b => hsel i oi cs b hi) (fun cs b => hsel j oj cs b hoj) hy h1
      have hfree' : ∀ q ok, ops[q]? = some ok → q ≠ i → (listed.setIfInBounds j true).getD q true = false →
          (∀ e ∈ ok.after, Region.binds md e = true → e.on ≠ i) → oi.apart ops ok = true := fun q ok hq hqi hunq hno => by
        refine hfree q ok hq hqi ?_ hno
        by_cases hjq : j = q
        · subst hjq; exact hjun
        · rw [getD_set_ne true hjq] at hunq; exact hunq
      refine stOp_mono (fun a' h3 => ih (listed.setIfInBounds j true) a' (inv.set hj hjp) hfree' (ready_mono hr (Ne.symm hji)) h3.1 ?_) h2
      rw [Array.setIfInBounds_comm _ _ hji]
      exact h3.2
/-- What has come up when those from a number on have. -/
def setFrom : Nat → Nat → Array Bool → Array Bool
  | _, 0, listed => listed
  | i, n + 1, listed => setFrom (i + 1) n (listed.setIfInBounds i true)
theorem setFrom_add : ∀ (a b i : Nat) (x : Array Bool), setFrom i (a + b) x = setFrom (i + a) b (setFrom i a x)
  | 0, b, i, x => by rw [Nat.zero_add]; rfl
  | a + 1, b, i, x => by
    rw [Nat.add_right_comm]
    simp only [setFrom]
    rw [setFrom_add a b (i + 1), Nat.add_right_comm i 1 a]
    rfl
def upTo (ops : Array Oper) (k : Nat) : Array Bool := setFrom 0 k (Array.replicate ops.size false)
theorem upTo_add (k m : Nat) : upTo ops (k + m) = setFrom k m (upTo ops k) := by
  unfold upTo
  rw [setFrom_add, Nat.zero_add]
def lexP (md : Region.Mode) (ops : Array Oper) (p : Nat) : Nat → Nat → Array Bool → Bool
  | 0, _, listed => decide (Region.ready md ops listed = [p])
  | n + 1, i, listed => (Region.ready md ops listed).contains i && Region.free md ops listed i && lexP md ops p n (i + 1) (listed.setIfInBounds i true)
def phaseB (md : Region.Mode) (ops : Array Oper) (k p : Nat) : Bool :=
  Region.noSelect ops && decide (k ≤ p) && decide (p < ops.size) && sinkPB md ops k p && chainPB md ops p && decide ((upTo ops k).size = ops.size) && Region.closedB md ops (upTo ops k) &&
    ((List.range ops.size).all fun t => decide (t < p) || !(upTo ops k).getD t true) && lexP md ops p (p - k) k (upTo ops k)
theorem phase_lex {k p : Nat} {Lq : Act → Prop} {target : Array Bool} (hsel : Region.noSelect ops = true) (hs : sinkPB md ops k p = true) (hc : chainPB md ops p = true) (hp : p < ops.size) :
    ∀ (l : List Oper) (i : Nat) (listed : Array Bool) (a : Act), (∀ j, j < l.length → l[j]? = ops[i + j]?) → i + l.length = p → k ≤ i → HeadInv md ops p listed → setFrom i l.length listed = target →
    lexP md ops p l.length i listed = true → wpStill P ops w Lq l a →
    wpAnyL P md ops w p (fun listed' a' => Region.ready md ops listed' = [p] ∧ listed' = target ∧ Lq a') l.length listed a
  | [], i, listed, a, _, _, _, _, ht, hB, h => ⟨by simpa [lexP] using hB, ht, h⟩
  | o :: l, i, listed, a, hl, hk, hki, inv, ht, hB, h => by
    have h0 : ops[i]? = some o := by simpa using (hl 0 (by simp)).symm
    simp only [List.length_cons, lexP, Bool.and_eq_true] at hB
    obtain ⟨⟨hr, hf⟩, hB'⟩ := hB
    have hip : i < p := by simp only [List.length_cons] at hk; omega
    have hr' : i ∈ Region.ready md ops listed := by simpa using hr
    have hst : stOp P ops w i (wpStill P ops w Lq l) a := by unfold stOp; simp only [h0]; exact h
    obtain ⟨v, hy, hK⟩ := yieldsAt_of_stOp h0 hst
    exact phase_first h0 (Region.noSelect_spec hsel) hs hc hp hki hip (fun listed' a' hL => by rw [hL.1]; simp) l.length listed a inv (Region.free_spec h0 hf) hr' hy
      (phase_lex hsel hs hc hp l (i + 1) _ _ (fun j hj => by have := hl (j + 1) (by simp; omega); simpa [Nat.add_assoc, Nat.add_comm 1 j] using this) (by simp only [List.length_cons] at hk; omega) (by omega) (inv.set hr' hip) ht hB' hK)
variable {n : Nat} {Q : Exit → Act → World → Prop}
theorem wpIn_of_still {o : Oper} {a : Act} {K : Act → Prop} {K' : Act → World → Prop} (h : ∀ a, K a → K' a w) (hh : o.still P a w K) : o.wpIn Fence.wide n P a w K' Q := by
  unfold Oper.still at hh
  unfold Oper.wpIn
  refine ⟨fun _ _ => trivial, ?_⟩
  rw [show Fence.wide.round = none from rfl, Oper.semAt_none]
  generalize (execOp a.eval o).run P w = r at *
  cases r with
  | ok x w' =>
    cases x <;> simp only [Oper.stillUpon] at hh <;> simp only [Oper.uponIn]
    case enter f args =>
      obtain ⟨rfl, v, hc, hn⟩ := hh
      exact ⟨fun h => by simp [Fence.wide] at h, (callsIn_wide.2 hc).mono fun e w'' ⟨he, hw⟩ => by subst he; subst hw; exact h _ hn⟩
    all_goals (obtain ⟨rfl, h2⟩ := hh; exact h _ h2)
  | halt x w' => simp only [Oper.stillUpon] at hh
theorem opIn_of_stOp {i : Nat} {a : Act} {K : Act → Prop} {K' : Act → World → Prop} (h : ∀ a, K a → K' a w) (hh : stOp P ops w i K a) : wpOpIn Fence.wide n P ops Q i K' a w := by
  unfold stOp at hh
  unfold wpOpIn
  split
  · rename_i ho; simp only [ho] at hh; exact h _ hh
  · rename_i o ho
    simp only [ho] at hh
    split
    · rename_i hw; simp only [hw, if_true] at hh; exact wpIn_of_still h hh
    · rename_i hw; simp only [hw] at hh; exact ⟨fun _ _ => trivial, h _ hh⟩
theorem anyIn_of_head {p g : Nat} {L : Array Bool → Act → Prop} (hL : ∀ listed a, L listed a → wpAnyIn Fence.wide n P md ops Q g listed a w) :
    ∀ (f : Nat) (listed : Array Bool) (a : Act), wpAnyL P md ops w p L f listed a → wpAnyIn Fence.wide n P md ops Q (f + g) listed a w
  | 0, listed, a, h => by rw [Nat.zero_add]; exact hL _ _ h
  | f + 1, listed, a, h => by
    rw [show f + 1 + g = (f + g) + 1 by omega]
    exact ⟨fun h0 => absurd h0 h.1, fun i hi => opIn_of_stOp (fun a' h' => anyIn_of_head hL f _ a' h') (h.2 i hi).2⟩
/-- One phase: those from number k on, up to number p, only read; then number p. -/
theorem phase_in {l : List Oper} {a : Act} (k p : Nat) (hB : phaseB .any l.toArray k p = true)
    (h : wpStill P l.toArray w (fun a' => wpOpIn Fence.wide n P l.toArray Q p (fun a2 w2 => wpAnyIn Fence.wide n P .any l.toArray Q (l.length - (p + 1)) (upTo l.toArray (p + 1)) a2 w2) a' w) ((l.drop k).take (p - k)) a) :
    wpAnyIn Fence.wide n P .any l.toArray Q (l.length - k) (upTo l.toArray k) a w := by
  simp only [phaseB, Bool.and_eq_true, decide_eq_true_eq] at hB
  obtain ⟨⟨⟨⟨⟨⟨⟨⟨hsel, hkp⟩, hp⟩, hs⟩, hc⟩, hsz⟩, hcl⟩, htl⟩, hlex⟩ := hB
  have hp' : p < l.length := by simpa using hp
  have hlen : ((l.drop k).take (p - k)).length = p - k := by simp; omega
  have inv : HeadInv .any l.toArray p (upTo l.toArray k) := ⟨hsz, Region.closedB_spec hcl, fun t h1 h2 => by
    have := List.all_eq_true.1 htl t (List.mem_range.2 h2)
    simp only [Bool.or_eq_true, decide_eq_true_eq, Bool.not_eq_true'] at this
    rcases this with h3 | h3
    · omega
    · exact h3⟩
  have H := phase_lex (P := P) (w := w) (md := .any) (target := upTo l.toArray p) hsel hs hc hp ((l.drop k).take (p - k)) k (upTo l.toArray k) a (fun j hj => by
    rw [hlen] at hj
    rw [List.getElem?_take_of_lt hj, List.getElem?_drop]; simp) (by rw [hlen]; omega) (Nat.le_refl _) inv (by rw [hlen, ← upTo_add]; congr 1; omega) (by rw [hlen]; exact hlex) h
  have g := anyIn_of_head (n := n) (Q := Q) (g := l.length - (p + 1) + 1) (fun listed a' hL => by
    obtain ⟨h1, rfl, h3⟩ := hL
    refine wpAnyIn_all h1 (by simp) (fun i hi => ?_)
    obtain rfl : i = p := by simpa using hi
    have e : (upTo l.toArray i).setIfInBounds i true = upTo l.toArray (i + 1) := (upTo_add i 1).symm
    rw [e]
    exact h3) _ _ _ H
  rw [hlen] at g
  rwa [show p - k + (l.length - (p + 1) + 1) = l.length - k by omega] at g
theorem phase_region {l : List Oper} {a : Act} {id : Nat} (hm : P.follows .mixedOrders = true) (h : wpAnyIn Fence.wide n P .any l.toArray Q (l.length - 0) (upTo l.toArray 0) a w.drew) : (Code.region id l.toArray true).wpIn Fence.wide n P Q a w := by
  refine wpIn_region_any hm ?_
  have e : upTo l.toArray 0 = Array.replicate l.toArray.size false := rfl
  rw [e] at h
  simpa using h
theorem phase_done {l : List Oper} {a : Act} (k : Nat) (hr : Region.ready .any l.toArray (upTo l.toArray k) = []) (h : Q .normal a w) : wpAnyIn Fence.wide n P .any l.toArray Q (l.length - k) (upTo l.toArray k) a w := wpAnyIn_done hr h _
/-- The one operation, where it is run; and where its guard passes it over. -/
theorem phase_op {i : Nat} {o : Oper} {K : Act → World → Prop} {a : Act} (ho : ops[i]? = some o) (hw : Region.wanted o (yielded ops a.tmps) = true) (h : Oper.wpIn Fence.wide n P o a w K Q) : wpOpIn Fence.wide n P ops Q i K a w := by
  unfold wpOpIn
  simp only [ho, hw, if_true]
  exact h
theorem phase_skip {i : Nat} {o : Oper} {K : Act → World → Prop} {a : Act} (ho : ops[i]? = some o) (hw : Region.wanted o (yielded ops a.tmps) = false) (h : K (a.put o.dst undef) w) : wpOpIn Fence.wide n P ops Q i K a w := by
  unfold wpOpIn
  simp only [ho, hw]
  exact ⟨fun _ _ => trivial, h⟩
end
end Go.Proofs.Ytfcdljnjhljjgaa.Hand
