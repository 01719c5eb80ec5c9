-- chapter 26: the class of a code point by the program's spans is that by the document's rows.
import Derived.Test.YtkaiibipcnlaiaaSayEllipsisWhole
import Derived.Test.YtkaiibipcnlaiaaHEllWx0
import Derived.Test.YtkaiibipcnlaiaaHEllWx4
import Derived.Test.YtkaiibipcnlaiaaHEllWx5
import Derived.Test.YtkaiibipcnlaiaaHEllWx15
import Derived.Test.YtkaiibipcnlaiaaHEllWx16
import Derived.Test.YtkaiibipcnlaiaaHEllWx17
import Derived.Test.YtkaiibipcnlaiaaHEllWx18
namespace Go.Proofs.Ytkaiibipcnlaiaa.PureF
set_option linter.unusedVariables false
set_option linter.unusedSimpArgs false
open Go.RowKit Go.Proofs.YtkaiibipcnlaiaaW.PrintWords Go.Proofs.YtkaiibipcnlaiaaW.PrintLast Go.Proofs.YtkaiibipcnlaiaaW.PrintMore Go.Proofs.Ytkaiibipcnlaiaa.Hand Go.Proofs.Ytkaiibipcnlaiaa.HEllW
theorem ws {x : Int} (h1 : -9223372036854775808 ≤ x) (h2 : x ≤ 9223372036854775807) : wrap64 x = x := by
  unfold wrap64
  omega
theorem w1 {n : Nat} (h : n ≤ 1000000000) : wrap64 ((n : Int) + 1) = ((n + 1 : Nat) : Int) := by rw [ws (by omega) (by omega)]; rfl
theorem head_ev : Ev (fun k => stickfullaw26_head.f k) true := Ev.of (fun k => stickfullaw26_head.mono k) (k := 100) (by kernel_rfl)
theorem head_ev2 : Ev (fun k => (stickfullaw26_head.f k).bind fun t => some t) true := Ev.bind head_ev (Ev.now true)
theorem rd_nat (l : List S53) {i : Nat} (hi : i < l.length) : rd_T53 l (i : Int) = l[i] := by
  unfold rd_T53
  simp [List.getD, hi]
abbrev inQ (q : Int × Int × Int) (r : Int) : Prop := q.1 ≤ r ∧ r ≤ q.2.1
/-- What a class is by rows of spans. -/
def ClassBy (l : List (Int × Int × Int)) (r c : Int) : Prop := (∃ q, q ∈ l ∧ inQ q r ∧ c = q.2.2) ∨ ((∀ q ∈ l, ¬ inQ q r) ∧ c = 0)
theorem rowAt_mem {l : List (Int × Int × Int)} {i : Int} (h0 : 0 ≤ i) (h1 : i < (l.length : Int)) : HEllW.rowAt l i ∈ l := by
  unfold HEllW.rowAt
  rw [List.getD_eq_getElem?_getD, List.getElem?_eq_getElem (by omega)]
  exact List.getElem_mem _
theorem mem_rowAt {l : List (Int × Int × Int)} {q : Int × Int × Int} (h : q ∈ l) : ∃ i : Int, 0 ≤ i ∧ i < (l.length : Int) ∧ HEllW.rowAt l i = q := by
  obtain ⟨k, hk, e⟩ := List.mem_iff_getElem.1 h
  refine ⟨k, by omega, by omega, ?_⟩
  unfold HEllW.rowAt
  rw [Int.toNat_natCast, List.getD_eq_getElem?_getD, List.getElem?_eq_getElem hk]
  exact e
theorem scan_by (l : List (Int × Int × Int)) (r : Int) : ∀ (n : Nat) (i : Int), 0 ≤ i → i + (n : Int) = (l.length : Int) → (∃ k, i ≤ k ∧ k < (l.length : Int) ∧ inQ (HEllW.rowAt l k) r ∧ scanN l r n i = (HEllW.rowAt l k).2.2) ∨ ((∀ k, i ≤ k → k < (l.length : Int) → ¬ inQ (HEllW.rowAt l k) r) ∧ scanN l r n i = 0)
  | 0, i, h0, h => .inr ⟨fun k h1 h2 => by omega, rfl⟩
  | n + 1, i, h0, h => by
    unfold scanN
    by_cases ha : inQ (HEllW.rowAt l i) r
    · rw [if_pos ha.1, if_pos ha.2]
      exact .inl ⟨i, by omega, by omega, ha, rfl⟩
    · have e : (if r ≥ (HEllW.rowAt l i).1 then (if r ≤ (HEllW.rowAt l i).2.1 then (HEllW.rowAt l i).2.2 else scanN l r n (i + 1)) else scanN l r n (i + 1)) = scanN l r n (i + 1) := by
        by_cases h1 : r ≥ (HEllW.rowAt l i).1
        · rw [if_pos h1, if_neg (fun h2 => ha ⟨h1, h2⟩)]
        · rw [if_neg h1]
      rw [e]
      rcases scan_by l r n (i + 1) (by omega) (by omega) with ⟨k, a, b, c, d⟩ | ⟨a, b⟩
      · exact .inl ⟨k, by omega, b, c, d⟩
      · refine .inr ⟨fun k h1 h2 => ?_, b⟩
        by_cases hk : k = i
        · rw [hk]; exact ha
        · exact a k (by omega) h2
theorem rof_by (r : Int) : ClassBy rowL r (rofR r) := by
  have hl : (rowL.length : Int) = 188 := by rw [rows_len]; rfl
  rcases scan_by rowL r 188 0 (by omega) (by omega) with ⟨k, a, b, c, d⟩ | ⟨a, b⟩
  · exact .inl ⟨_, rowAt_mem a b, c, d⟩
  · refine .inr ⟨fun q hq => ?_, b⟩
    obtain ⟨i, h0, h1, e⟩ := mem_rowAt hq
    rw [← e]
    exact a i h0 h1
theorem search_spec (p : Int → Bool) (N : Int) (hm : ∀ a b, 0 ≤ a → a ≤ b → b < N → p a = true → p b = true) : ∀ (n : Nat) (i j : Int), 0 ≤ i → i ≤ j → j ≤ N → j - i < (n : Int) → (∀ k, 0 ≤ k → k < i → p k = false) → (∀ k, j ≤ k → k < N → p k = true) →
    (∀ k, 0 ≤ k → k < searchP p n i j → p k = false) ∧ (∀ k, searchP p n i j ≤ k → k < N → p k = true)
  | 0, i, j, h0, h1, h2, h3, _, _ => by omega
  | n + 1, i, j, h0, h1, h2, h3, h4, h5 => by
    unfold searchP
    by_cases hij : i < j
    · rw [if_pos hij]
      cases hp : p ((i + j) / 2) with
      | true =>
        rw [if_pos rfl]
        exact search_spec p N hm n i ((i + j) / 2) h0 (by omega) (by omega) (by omega) h4 (fun k h6 h7 => hm _ k (by omega) h6 h7 hp)
      | false =>
        rw [if_neg (by decide)]
        refine search_spec p N hm n ((i + j) / 2 + 1) j (by omega) (by omega) h2 (by omega) (fun k h6 h7 => ?_) h5
        cases hk : p k with
        | false => rfl
        | true =>
          have := hm k ((i + j) / 2) h6 (by omega) (by omega) hk
          rw [hp] at this
          cases this
    · rw [if_neg hij]
      obtain rfl : i = j := by omega
      exact ⟨h4, h5⟩
/-- Spans that rise: each is one, and begins behind the one ahead. -/
def risesB : List (Int × Int × Int) → Bool
  | [] => true
  | [q] => decide (q.1 ≤ q.2.1)
  | q :: q2 :: l => decide (q.1 ≤ q.2.1) && (decide (q.2.1 < q2.1) && risesB (q2 :: l))
theorem rises_pair : ∀ {l : List (Int × Int × Int)}, risesB l = true → (∀ q ∈ l, q.1 ≤ q.2.1) ∧ l.Pairwise (fun a b => a.2.1 < b.1)
  | [], _ => ⟨fun q hq => (by cases hq), List.Pairwise.nil⟩
  | [q], h => ⟨fun q' hq => by
      rcases List.mem_singleton.1 hq with rfl
      exact of_decide_eq_true h, List.pairwise_singleton _ _⟩
  | q :: q2 :: l, h => by
    simp only [risesB, Bool.and_eq_true, decide_eq_true_eq] at h
    obtain ⟨h1, h2, h3⟩ := h
    obtain ⟨a, b⟩ := rises_pair h3
    refine ⟨fun q' hq => ?_, List.pairwise_cons.2 ⟨fun q' hq => ?_, b⟩⟩
    · rcases List.mem_cons.1 hq with rfl | hq
      · exact h1
      · exact a _ hq
    · rcases List.mem_cons.1 hq with rfl | hq
      · exact h2
      · have := (List.pairwise_cons.1 b).1 q' hq
        have := a q2 (List.mem_cons_self ..)
        omega
theorem spans_rise : risesB spanL = true := by kernel_rfl
theorem spAt_eq (q : Int) : spAt q = HEllW.rowAt spanL q := rfl
theorem rises_at {l : List (Int × Int × Int)} (hr : risesB l = true) {a b : Int} (h0 : 0 ≤ a) (h1 : a < b) (h2 : b < (l.length : Int)) : (HEllW.rowAt l a).2.1 < (HEllW.rowAt l b).1 := by
  have := List.pairwise_iff_getElem.1 (rises_pair hr).2 a.toNat b.toNat (by omega) (by omega) (by omega)
  unfold HEllW.rowAt
  rw [List.getD_eq_getElem?_getD, List.getElem?_eq_getElem (by omega), List.getD_eq_getElem?_getD, List.getElem?_eq_getElem (by omega)]
  exact this
theorem of_by (r : Int) : ClassBy spanL r (ofR r) := by
  have hl : (spanL.length : Int) = 188 := by rw [spans_len]; rfl
  have hro : ∀ k : Int, 0 ≤ k → k < 188 → (HEllW.rowAt spanL k).1 ≤ (HEllW.rowAt spanL k).2.1 := fun k h0 h1 => (rises_pair spans_rise).1 _ (rowAt_mem h0 (by omega))
  have hra : ∀ a b : Int, 0 ≤ a → a < b → b < 188 → (HEllW.rowAt spanL a).2.1 < (HEllW.rowAt spanL b).1 := fun a b h0 h1 h2 => rises_at spans_rise h0 h1 (by omega)
  have hin := searchP_in (spLe r) 189 0 188 (by decide)
  have hs := search_spec (spLe r) 188 (fun a b h0 h1 h2 h3 => by
    have h3 := of_decide_eq_true h3
    refine decide_eq_true ?_
    rw [spAt_eq] at h3 ⊢
    by_cases hab : a = b
    · rw [← hab]; exact h3
    · have := hra a b h0 (by omega) h2
      have := hro b (by omega) h2
      omega) 189 0 188 (by omega) (by omega) (by omega) (by omega) (fun k h0 h1 => by omega) (fun k h0 h1 => by omega)
  have hmem : ∀ q ∈ spanL, ∃ k : Int, 0 ≤ k ∧ k < 188 ∧ HEllW.rowAt spanL k = q := fun q hq => by
    obtain ⟨i, h0, h1, e⟩ := mem_rowAt hq
    exact ⟨i, h0, by omega, e⟩
  have hmm : ∀ k : Int, 0 ≤ k → k < 188 → HEllW.rowAt spanL k ∈ spanL := fun k h0 h1 => rowAt_mem h0 (by omega)
  unfold ofR ofI
  generalize searchP (spLe r) 189 0 188 = i at hin hs ⊢
  have hlo : ∀ k : Int, 0 ≤ k → k < i → (HEllW.rowAt spanL k).2.1 < r := fun k h0 h1 => by
    have := of_decide_eq_false (hs.1 k h0 h1)
    rw [spAt_eq] at this
    omega
  by_cases h188 : i = 188
  · rw [if_pos h188]
    refine .inr ⟨fun q hq => ?_, rfl⟩
    obtain ⟨k, h0, h1, e⟩ := hmem q hq
    have := hlo k h0 (by omega)
    rw [← e]
    exact fun h => by have := h.2; omega
  · rw [if_neg h188, spAt_eq]
    by_cases hgt : (HEllW.rowAt spanL i).1 > r
    · rw [if_pos hgt]
      refine .inr ⟨fun q hq => ?_, rfl⟩
      obtain ⟨k, h0, h1, e⟩ := hmem q hq
      rw [← e]
      intro h
      by_cases hk : k < i
      · have := hlo k h0 hk; have := h.2; omega
      · by_cases hki : k = i
        · rw [hki] at h; have := h.1; omega
        · have := hra i k (by omega) (by omega) h1
          have := hro i (by omega) (by omega)
          have := h.1
          omega
    · rw [if_neg hgt]
      have h3 := of_decide_eq_true (hs.2 i (Int.le_refl _) (by omega))
      rw [spAt_eq] at h3
      exact .inl ⟨_, hmm i (by omega) (by omega), ⟨by omega, h3⟩, rfl⟩
def sameB (a b : Int × Int × Int) : Bool := decide (a.1 = b.1) && (decide (a.2.1 = b.2.1) && decide (a.2.2 = b.2.2))
theorem sameB_eq {a b : Int × Int × Int} (h : sameB a b = true) : a = b := by
  simp only [sameB, Bool.and_eq_true, decide_eq_true_eq] at h
  obtain ⟨a1, a2, a3⟩ := a
  obtain ⟨b1, b2, b3⟩ := b
  obtain ⟨h1, h2, h3⟩ := h
  simp only at h1 h2 h3
  rw [h1, h2, h3]
def withinB (l m : List (Int × Int × Int)) : Bool := l.all fun a => m.any fun b => sameB a b
theorem within_of {l m : List (Int × Int × Int)} (h : withinB l m = true) : ∀ q ∈ l, q ∈ m := fun q hq => by
  obtain ⟨b, hb, e⟩ := List.any_eq_true.1 (List.all_eq_true.1 h q hq)
  rw [sameB_eq e]
  exact hb
theorem rows_in : withinB rowL spanL = true := by kernel_rfl
theorem spans_in : withinB spanL rowL = true := by kernel_rfl
theorem of_same (r : Int) : rofR r = ofR r := by
  have huniq : ∀ q ∈ spanL, ∀ q' ∈ spanL, inQ q r → inQ q' r → q = q' := fun q hq q' hq' h h' => by
    obtain ⟨a, a0, a1, rfl⟩ := mem_rowAt hq
    obtain ⟨b, b0, b1, rfl⟩ := mem_rowAt hq'
    by_cases hab : a = b
    · rw [hab]
    · by_cases hlt : a < b
      · have := rises_at spans_rise a0 hlt b1
        have := h.2; have := h'.1; omega
      · have := rises_at spans_rise b0 (show b < a by omega) a1
        have := h.1; have := h'.2; omega
  rcases rof_by r with ⟨q, hq, hi, e⟩ | ⟨ha, e⟩
  · rcases of_by r with ⟨q', hq', hi', e'⟩ | ⟨ha', e'⟩
    · rw [e, e', huniq q (within_of rows_in q hq) q' hq' hi hi']
    · exact absurd hi (ha' q (within_of rows_in q hq))
  · rcases of_by r with ⟨q', hq', hi', e'⟩ | ⟨ha', e'⟩
    · exact absurd hi' (ha q' (within_of spans_in q' hq'))
    · rw [e, e']
/-- A cell of a character that is none. -/
def badC (x0 : List S78) (c : S53) : Bool := decide (c.f0 = 0) && (decide (c.f2 < 0) || decide (c.f2 ≥ (x0.length : Int)))
/-- May a line be cut ahead of it? -/
def cw (x0 : List S78) (c : S53) : Bool := if c.f0 = 0 then !(ofR (rd_T78 x0 c.f2).f0 == 9) else true
def wZ (x0 : List S78) (l : List S53) : List Bool × Int := if l.any (badC x0) = true then ([], 2) else (l.map (cw x0), 0)
theorem wZ_bad {x0 : List S78} {l : List S53} {i : Nat} (hi : i < l.length) (h : badC x0 l[i] = true) : wZ x0 l = ([], 2) := by
  unfold wZ
  rw [if_pos (List.any_eq_true.2 ⟨_, List.getElem_mem hi, h⟩)]
theorem take_any {x0 : List S78} {l : List S53} {i : Nat} (hi : i < l.length) (h : (l.take i).any (badC x0) = false) (h2 : badC x0 l[i] = false) : (l.take (i + 1)).any (badC x0) = false := by
  rw [List.take_succ_eq_append_getElem hi, List.any_append, h]
  simp [h2]
theorem bad_of {x0 : List S78} {c : S53} (h0 : c.f0 = 0) (h : c.f2 < 0 ∨ c.f2 ≥ (x0.length : Int)) : badC x0 c = true := by
  unfold badC
  rw [decide_eq_true h0, Bool.true_and]
  rcases h with h | h
  · rw [decide_eq_true h, Bool.true_or]
  · rw [decide_eq_true h, Bool.or_true]
theorem good_of {x0 : List S78} {c : S53} (h1 : ¬ c.f2 < 0) (h2 : ¬ c.f2 ≥ (x0.length : Int)) : badC x0 c = false := by
  unfold badC
  rw [decide_eq_false h1, decide_eq_false h2]
  simp
theorem other_of {x0 : List S78} {c : S53} (h0 : ¬ c.f0 = 0) : badC x0 c = false := by
  unfold badC
  rw [decide_eq_false h0, Bool.false_and]
theorem rwhole_l0 (x0 : List S78) (l : List S53) (hlen : l.length ≤ 1000) : ∀ (r i : Nat), i + r = l.length → (l.take i).any (badC x0) = false →
    Ev (fun k => stickfulref26_Whole.l0 k x0 l ((l.take i).map (cw x0)) (i : Int)) (wZ x0 l) := by
  intro r
  induction r with
  | zero =>
    intro i hi hb
    have e : wZ x0 l = (l.map (cw x0), 0) := by
      rw [List.take_of_length_le (by omega)] at hb
      unfold wZ
      rw [if_neg (by rw [hb]; decide)]
    rw [e]
    refine Ev.step (f := fun _ => some (l.map (cw x0), 0)) (fun k => ?_) (Ev.now _)
    simp only [stickfulref26_Whole.l0]
    rw [if_neg (by omega), List.take_of_length_le (by omega)]
  | succ r ih =>
    intro i hi hb
    have hlt : i < l.length := by omega
    have hml : ((l.take i).map (cw x0)).length < 140737488355328 := by rw [List.length_map, List.length_take]; omega
    have hrd := rd_nat l hlt
    have htk : ∀ v, cw x0 l[i] = v → (l.take i).map (cw x0) ++ [v] = (l.take (i + 1)).map (cw x0) := fun v hv => by
      rw [List.take_succ_eq_append_getElem hlt, List.map_append, List.map_cons, List.map_nil, hv]
    by_cases h0 : (l[i]).f0 = 0
    · by_cases h1 : (l[i]).f2 < 0
      · rw [wZ_bad hlt (bad_of h0 (.inl h1))]
        refine Ev.step (f := fun _ => some ([], 2)) (fun k => ?_) (Ev.now _)
        simp only [stickfulref26_Whole.l0]
        rw [hrd, if_pos (by omega), if_pos (by omega), if_pos h0, if_pos h1]
      · by_cases h2 : (l[i]).f2 ≥ (x0.length : Int)
        · rw [wZ_bad hlt (bad_of h0 (.inr h2))]
          refine Ev.step (f := fun _ => some ([], 2)) (fun k => ?_) (Ev.now _)
          simp only [stickfulref26_Whole.l0]
          rw [hrd, if_pos (by omega), if_pos (by omega), if_pos h0, if_neg h1, if_pos h2]
        · refine Ev.step (fun k => ?_) (ih (i + 1) (by omega) (take_any hlt hb (good_of h1 h2)))
          simp only [stickfulref26_Whole.l0]
          rw [hrd, if_pos (by omega), if_pos (by omega), if_pos h0, if_neg h1, if_neg h2, if_pos (by omega), if_pos (by omega), w1 (by omega)]
          unfold stickfulref04_Of.f
          rw [Option.bind_some, if_pos hml, of_same, htk _ (by unfold cw; rw [if_pos h0]; rfl)]
    · refine Ev.step (fun k => ?_) (ih (i + 1) (by omega) (take_any hlt hb (other_of h0)))
      simp only [stickfulref26_Whole.l0]
      rw [hrd, if_pos (by omega), if_pos (by omega), if_neg h0, if_pos hml, w1 (by omega), htk _ (by unfold cw; rw [if_neg h0])]
theorem rwhole_ev (x0 : List S78) (l : List S53) (hlen : l.length ≤ 1000) : Ev (fun k => stickfulref26_Whole.f k x0 l) (wZ x0 l) := rwhole_l0 x0 l hlen l.length 0 (by omega) rfl
theorem set_mid {α : Type} (a : List α) (x y : α) (b : List α) : (a ++ x :: b).set a.length y = a ++ y :: b := by simp
theorem whole_l0 (x0 : List S78) (l : List S53) (hlen : l.length ≤ 1000) : ∀ (r i : Nat), i + r = l.length → (l.take i).any (badC x0) = false →
    Ev (fun k => ellipsis_Whole.l0 k x0 ((l.take i).map (cw x0) ++ List.replicate r false) l (l.length : Int) (i : Int)) (wZ x0 l) := by
  intro r
  induction r with
  | zero =>
    intro i hi hb
    have e : wZ x0 l = (l.map (cw x0), 0) := by
      rw [List.take_of_length_le (by omega)] at hb
      unfold wZ
      rw [if_neg (by rw [hb]; decide)]
    rw [e]
    refine Ev.step (f := fun _ => some (l.map (cw x0), 0)) (fun k => ?_) (Ev.now _)
    simp only [ellipsis_Whole.l0]
    rw [if_neg (by omega), List.take_of_length_le (by omega)]
    simp
  | succ r ih =>
    intro i hi hb
    have hlt : i < l.length := by omega
    have hrd := rd_nat l hlt
    have hli : ((l.take i).map (cw x0)).length = i := by rw [List.length_map, List.length_take]; omega
    have hs : ∀ v w : Bool, ((l.take i).map (cw x0) ++ w :: List.replicate r false).set i v = (l.take i).map (cw x0) ++ v :: List.replicate r false := fun v w => by
      have := set_mid ((l.take i).map (cw x0)) w v (List.replicate r false)
      rw [hli] at this
      exact this
    have htk : ∀ v, cw x0 l[i] = v → (l.take i).map (cw x0) ++ v :: List.replicate r false = (l.take (i + 1)).map (cw x0) ++ List.replicate r false := fun v hv => by
      rw [List.take_succ_eq_append_getElem hlt, List.map_append, List.map_cons, List.map_nil, hv, List.append_assoc]
      rfl
    have hlb : (((l.take i).map (cw x0) ++ false :: List.replicate r false).length : Int) = (l.length : Int) := by
      rw [List.length_append, hli, List.length_cons, List.length_replicate]
      omega
    rw [List.replicate_succ]
    by_cases h0 : (l[i]).f0 = 0
    · by_cases h1 : (l[i]).f2 < 0
      · rw [wZ_bad hlt (bad_of h0 (.inl h1))]
        refine Ev.step (f := fun _ => some ([], 2)) (fun k => ?_) (Ev.now _)
        simp only [ellipsis_Whole.l0]
        rw [hrd, if_pos (by omega), if_pos (by omega), if_pos (by omega), if_pos (by omega), Option.bind_some, if_pos h0, if_pos h1]
      · by_cases h2 : (l[i]).f2 ≥ (x0.length : Int)
        · rw [wZ_bad hlt (bad_of h0 (.inr h2))]
          refine Ev.step (f := fun _ => some ([], 2)) (fun k => ?_) (Ev.now _)
          simp only [ellipsis_Whole.l0]
          rw [hrd, if_pos (by omega), if_pos (by omega), if_pos (by omega), if_pos (by omega), Option.bind_some, if_pos h0, if_neg h1, if_pos h2]
        · refine Ev.step (fun k => ?_) (ih (i + 1) (by omega) (take_any hlt hb (good_of h1 h2)))
          simp only [ellipsis_Whole.l0]
          rw [hrd, if_pos (by omega), if_pos (by omega), if_pos (by omega), if_pos (by omega), Option.bind_some, if_pos h0, if_neg h1, if_neg h2, if_pos (by omega), if_pos (by omega), w1 (by omega)]
          unfold class_Mark.f class_Of.f
          rw [Option.bind_some, Option.bind_some, Int.toNat_natCast, hs, hs, htk _ (by unfold cw; rw [if_pos h0])]
    · refine Ev.step (fun k => ?_) (ih (i + 1) (by omega) (take_any hlt hb (other_of h0)))
      simp only [ellipsis_Whole.l0]
      rw [hrd, if_pos (by omega), if_pos (by omega), if_pos (by omega), if_pos (by omega), Option.bind_some, if_neg h0, w1 (by omega), Int.toNat_natCast, hs, htk _ (by unfold cw; rw [if_neg h0])]
theorem whole_ev (x0 : List S78) (l : List S53) (hlen : l.length ≤ 1000) : Ev (fun k => ellipsis_Whole.f k x0 l) (wZ x0 l) := by
  have h := whole_l0 x0 l hlen l.length 0 (by omega) rfl
  refine Ev.congr (fun k => ?_) h
  unfold ellipsis_Whole.f
  rw [if_pos (by omega), if_pos (by omega), Int.toNat_natCast]
  rfl
theorem same_l0 (l : List Bool) (hlen : l.length ≤ 1000) : ∀ (r i : Nat), i + r = l.length → Ev (fun k => stickfulref09_Same.l0 k l l (i : Int)) true := by
  intro r
  induction r with
  | zero =>
    intro i hi
    refine Ev.step (f := fun _ => some true) (fun k => ?_) (Ev.now _)
    simp only [stickfulref09_Same.l0]
    rw [if_neg (by omega)]
  | succ r ih =>
    intro i hi
    refine Ev.step (fun k => ?_) (ih (i + 1) (by omega))
    simp only [stickfulref09_Same.l0]
    rw [if_pos (by omega), if_pos (by omega), if_pos (by omega), if_neg (by simp), w1 (by omega)]
theorem same_ev (l : List Bool) (hlen : l.length ≤ 1000) : Ev (fun k => stickfulref09_Same.f k l l) true := by
  unfold stickfulref09_Same.f
  refine Ev.congr (fun k => if_pos rfl) (same_l0 l hlen l.length 0 (by omega))
theorem wZ_len (x0 : List S78) (l : List S53) (hlen : l.length ≤ 1000) : (wZ x0 l).1.length ≤ 1000 := by
  unfold wZ
  split
  · simp
  · rw [List.length_map]; exact hlen
theorem wholej0 (x0 : List S78) (l : List S53) (b : Bool) (h : b = false → l.length ≤ 200) : Ev (fun k => stickfullaw26_EllipsisWhole.j0 k x0 l b) true := by
  cases b with
  | true =>
    refine Ev.step (fun k => ?_) head_ev2
    simp only [stickfullaw26_EllipsisWhole.j0]
    rw [if_pos trivial]
  | false =>
    have hlen := h rfl
    refine Ev.step (f := fun k => (ellipsis_Whole.f k x0 l).bind fun bt202 => ((stickfulref26_Whole.f k x0 l).bind fun bt206 => ((stickfulref09_Same.f k bt202.1 bt206.1).bind fun t210 => (if t210 = true then (if bt202.2 = bt206.2 then ((stickfullaw26_head.f k).bind fun t211 => (some t211)) else (some false)) else (some false))))) (fun k => ?_) ?_
    · simp only [stickfullaw26_EllipsisWhole.j0]
      rw [if_neg (by decide)]
    · refine Ev.bind (whole_ev x0 l (by omega)) ?_
      refine Ev.bind (rwhole_ev x0 l (by omega)) ?_
      refine Ev.bind (same_ev _ (wZ_len x0 l (by omega))) ?_
      exact Ev.congr (fun k => by rw [if_pos rfl, if_pos rfl]) head_ev2
theorem whole_law (x0 : List S78) (l : List S53) : Ev (fun k => stickfullaw26_EllipsisWhole.f k x0 l) true := by
  unfold stickfullaw26_EllipsisWhole.f
  by_cases h : (x0.length : Int) > 200
  · exact Ev.congr (fun k => if_pos h) (wholej0 x0 l true (fun h => by cases h))
  · exact Ev.congr (fun k => if_neg h) (wholej0 x0 l _ (fun h => by have := of_decide_eq_false h; omega))
end Go.Proofs.Ytkaiibipcnlaiaa.PureF
namespace Go.Proofs.Ytkaiibipcnlaiaa.Pure
open Go.RowKit Go.Proofs.YtkaiibipcnlaiaaW.PrintWords Go.Proofs.YtkaiibipcnlaiaaW.PrintLast Go.Proofs.YtkaiibipcnlaiaaW.PrintMore Go.Proofs.Ytkaiibipcnlaiaa.Hand Go.Proofs.Ytkaiibipcnlaiaa.HEllW
theorem EllipsisWhole : stickfullaw26_EllipsisWhole.Pure := fun x0 l _ _ => (PureF.whole_law x0 l).rounds
end Go.Proofs.Ytkaiibipcnlaiaa.Pure
