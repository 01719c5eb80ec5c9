/- Plain laws of chapter 21: the document's own answers, pens and roles, told from the list alone. No condition of its own. -/
import Derived.Test.YtkegnlidlabjeaaPureIA
import Derived.Test.YtkegnlidlabjeaaHIntrx18
import Derived.Test.YtkegnlidlabjeaaSayIntrinsicTells
namespace Go.Proofs.Ytkegnlidlabjeaa.PureI
set_option linter.unusedVariables false
set_option linter.unusedSimpArgs false
open Go.RowKit Go.Proofs.YtkegnlidlabjeaaW.PrintWords Go.Proofs.YtkegnlidlabjeaaW.PrintLast Go.Proofs.YtkegnlidlabjeaaW.PrintMore Go.Proofs.Ytkegnlidlabjeaa.Hand Go.Proofs.Ytkegnlidlabjeaa.HIntr
theorem tdm (x : Int) : 1000000 * x.tdiv 1000000 + x.tmod 1000000 = x ∧ -1000000 < x.tmod 1000000 ∧ x.tmod 1000000 < 1000000 := by
  have h := Int.mul_tdiv_add_tmod x 1000000
  refine ⟨h, ?_, Int.tmod_lt_of_pos x (by decide)⟩
  have := Int.tmod_lt_of_pos (-x) (show (0 : Int) < 1000000 by decide)
  rw [Int.neg_tmod] at this
  omega
theorem rfits (x : Int) : stickfulref01_fits.f x = some (decide (fits x)) := by
  unfold stickfulref01_fits.f fits
  by_cases h1 : x ≥ -4611686018427387904
  · rw [if_pos h1]
    by_cases h2 : x ≤ 4611686018427387904 <;> simp [h2] <;> omega
  · rw [if_neg h1]; congr 1; exact (decide_eq_false (fun h => h1 h.1)).symm
theorem rfits12 (x : Int) : stickfulref12_fits.f x = some (decide (fits x)) := by
  unfold stickfulref12_fits.f fits
  by_cases h1 : x ≥ -4611686018427387904
  · rw [if_pos h1]
    by_cases h2 : x ≤ 4611686018427387904 <;> simp [h2] <;> omega
  · rw [if_neg h1]; congr 1; exact (decide_eq_false (fun h => h1 h.1)).symm
def sumE (s : Int) : Int × Int := if fits s then (s, 0) else (0, 10)
theorem rd_int (l : List Int) {i : Nat} (hi : i < l.length) : rd l (i : Int) = l[i] := by unfold rd; simp [List.getD, hi]
theorem rsum_l0 (l : List Int) (h : ∀ x ∈ l, in64 x) (hl : l.length ≤ 1000) : ∀ (r i : Nat) (hi lo : Int), i + r = l.length → -(i * 9223372036855) ≤ hi → hi ≤ i * 9223372036855 → -(i * 1000000) ≤ lo → lo ≤ i * 1000000 →
    Ev (fun k => stickfulref01_Sum.l0 k l hi lo (i : Int)) (sumE (1000000 * hi + lo + (l.drop i).sum)) := by
  intro r
  induction r with
  | zero =>
    intro i hi lo hir h1 h2 h3 h4
    have hd : (l.drop i).sum = 0 := by rw [List.drop_of_length_le (by omega)]; rfl
    rw [hd, Int.add_zero]
    obtain ⟨e1, e2, e3⟩ := tdm lo
    have b1 : -1000 ≤ lo.tdiv 1000000 ∧ lo.tdiv 1000000 ≤ 1000 := by constructor <;> omega
    have w1 : wrap64 (lo.tdiv 1000000) = lo.tdiv 1000000 := ws (by omega) (by omega)
    have w2 : wrap64 (hi + lo.tdiv 1000000) = hi + lo.tdiv 1000000 := ws (by omega) (by omega)
    have key : ∀ k, stickfulref01_Sum.l0 (k + 1) l hi lo (i : Int) = stickfulref01_Sum.j1 k (hi + lo.tdiv 1000000) (lo.tmod 1000000) (decide (hi + lo.tdiv 1000000 > 4611686018428) || decide (hi + lo.tdiv 1000000 < -4611686018428)) := by
      intro k
      simp only [stickfulref01_Sum.l0]
      rw [if_neg (by omega), w1, w2]
      by_cases c : hi + lo.tdiv 1000000 > 4611686018428
      · rw [if_pos c, decide_eq_true c]; rfl
      · rw [if_neg c, decide_eq_false c]; rfl
    refine Ev.step key ?_
    by_cases c : hi + lo.tdiv 1000000 > 4611686018428 ∨ hi + lo.tdiv 1000000 < -4611686018428
    · have ec : (decide (hi + lo.tdiv 1000000 > 4611686018428) || decide (hi + lo.tdiv 1000000 < -4611686018428)) = true := by simpa using c
      rw [ec]
      have nf : ¬ fits (1000000 * hi + lo) := by unfold fits; omega
      unfold sumE
      rw [if_neg nf]
      exact Ev.step (f := fun _ => some (0, 10)) (fun k => by simp only [stickfulref01_Sum.j1]; rw [if_pos trivial]) (Ev.now _)
    · have ec : (decide (hi + lo.tdiv 1000000 > 4611686018428) || decide (hi + lo.tdiv 1000000 < -4611686018428)) = false := by simp; omega
      rw [ec]
      have w3 : wrap64 ((hi + lo.tdiv 1000000) * 1000000) = (hi + lo.tdiv 1000000) * 1000000 := ws (by omega) (by omega)
      have w4 : wrap64 ((hi + lo.tdiv 1000000) * 1000000 + lo.tmod 1000000) = 1000000 * hi + lo := by rw [ws (by omega) (by omega)]; omega
      refine Ev.step (f := fun _ => some (sumE (1000000 * hi + lo))) (fun k => ?_) (Ev.now _)
      simp only [stickfulref01_Sum.j1]
      rw [if_neg (by decide), w3, w4, rfits]
      simp only [Option.bind_some]
      unfold sumE
      by_cases hf : fits (1000000 * hi + lo)
      · rw [decide_eq_true hf, if_pos rfl, if_pos hf]
      · rw [decide_eq_false hf, if_neg (by decide), if_neg hf]
  | succ r ih =>
    intro i hi lo hir h1 h2 h3 h4
    have hx := h l[i] (List.getElem_mem (by omega))
    unfold in64 at hx
    obtain ⟨e1, e2, e3⟩ := tdm l[i]
    have hd : (l.drop i).sum = l[i] + (l.drop (i + 1)).sum := by rw [List.drop_eq_getElem_cons (by omega), List.sum_cons]
    have e4 : 1000000 * hi + lo + (l.drop i).sum = 1000000 * (hi + (l[i]).tdiv 1000000) + (lo + (l[i]).tmod 1000000) + (l.drop (i + 1)).sum := by rw [hd]; omega
    rw [e4]
    refine Ev.step (fun k => ?_) (ih (i + 1) (hi + (l[i]).tdiv 1000000) (lo + (l[i]).tmod 1000000) (by omega) (by omega) (by omega) (by omega) (by omega))
    simp only [stickfulref01_Sum.l0]
    rw [if_pos (by omega), if_pos (by omega), rd_int l (by omega), ws (x := (l[i]).tdiv 1000000) (by omega) (by omega), ws (x := hi + (l[i]).tdiv 1000000) (by omega) (by omega), ws (x := lo + (l[i]).tmod 1000000) (by omega) (by omega), w1 (by omega)]
theorem rsum_ev {l : List Int} (h : ∀ x ∈ l, in64 x) (hl : l.length ≤ 1000) : Ev (fun k => stickfulref01_Sum.f k l) (sumE l.sum) := by
  have := rsum_l0 l h hl l.length 0 0 0 (by omega) (by omega) (by omega) (by omega) (by omega)
  have e : 1000000 * (0 : Int) + 0 + (l.drop 0).sum = l.sum := by simp
  rw [e] at this
  exact this
theorem pair_eta (p : Int × Int) : (p.1, p.2) = p := rfl
theorem rstep_ev {c : S35} (hc : okC c) (hb : badTab c = false) {x : Int} (hx : fits x) : Ev (fun k => stickfulref12_Step.f k c.f0 c.f1 c.f2 c.f3 c.f4 c.f5 x) (match nxt c x with | some y => (y, 0) | none => (0, 10)) := by
  have hx1 := in_of_fits hx
  unfold stickfulref12_Step.f nxt
  by_cases h4 : c.f0 = 4
  · have h3 : ¬ c.f3 < 0 := by
      intro h
      unfold badTab at hb
      rw [h4, decide_eq_true h] at hb
      cases hb
    simp only [if_pos h4]
    rw [decide_eq_false h3]
    by_cases h0 : c.f3 = 0
    · refine Ev.step (f := fun _ => some (x, 0)) (fun k => ?_) (by rw [if_pos h0]; exact Ev.now _)
      simp only [stickfulref12_Step.j0]
      rw [if_neg (by decide), if_pos h4, rfits12, decide_eq_true hx, Option.bind_some, if_pos rfl, if_pos h0]
    · have hd : 0 < c.f3 := by omega
      have hi : c.f3 ≤ 9223372036854775807 := hc.2
      have hm1 : 0 ≤ x % c.f3 := Int.emod_nonneg x (by omega)
      have hm2 : x % c.f3 < c.f3 := Int.emod_lt_of_pos x hd
      have key : Ev (fun k => stickfulref01_Stop.f k x c.f3) (sumE (x - x % c.f3 + c.f3)) := by
        have hs : Ev (fun k => (stickfulref01_Sum.f k [x, -(x % c.f3), c.f3]).bind fun bt => some (bt.1, bt.2)) (sumE (x - x % c.f3 + c.f3)) := by
          refine Ev.bind (a := sumE (x - x % c.f3 + c.f3)) ?_ (Ev.now _)
          have es : x - x % c.f3 + c.f3 = [x, -(x % c.f3), c.f3].sum := by simp; omega
          rw [es]
          refine rsum_ev ?_ (by simp)
          intro y hy
          simp at hy
          rcases hy with rfl | rfl | rfl
          · exact hx1
          · unfold in64; omega
          · exact hc
        refine Ev.congr (fun k => ?_) hs
        unfold stickfulref01_Stop.f
        rw [if_neg (by omega), if_neg h0]
        rcases tmod_cases (x := x) hd with ⟨ht, he⟩ | ⟨ht, he⟩
        · rw [if_pos ht, show wrap64 (x.tmod c.f3 + c.f3) = x % c.f3 by rw [he]; exact ws (by omega) (by omega), ws (x := -(x % c.f3)) (by omega) (by omega)]
        · rw [if_neg ht, ← he, ws (x := -(x % c.f3)) (by omega) (by omega)]
      refine Ev.step (f := fun k => (stickfulref01_Stop.f k x c.f3).bind fun bt => some (bt.1, bt.2)) (fun k => ?_) ?_
      · simp only [stickfulref12_Step.j0]
        rw [if_neg (by decide), if_pos h4, rfits12, decide_eq_true hx, Option.bind_some, if_pos rfl, if_neg h0]
      · refine Ev.bind key ?_
        rw [if_neg h0]
        unfold sumE fitO
        by_cases hf : fits (x - x % c.f3 + c.f3)
        · rw [if_pos hf, if_pos hf]; exact Ev.now _
        · rw [if_neg hf, if_neg hf]; exact Ev.now _
  · simp only [if_neg h4]
    refine Ev.step (f := fun k => (stickfulref01_Sum.f k [x, c.f3]).bind fun bt => some (bt.1, bt.2)) (fun k => ?_) ?_
    · simp only [stickfulref12_Step.j0]
      rw [if_neg (by decide), if_neg h4]
    · refine Ev.bind (rsum_ev (l := [x, c.f3]) (by
        intro y hy
        simp at hy
        rcases hy with rfl | rfl
        · exact hx1
        · exact hc) (by simp)) ?_
      have es : [x, c.f3].sum = x + c.f3 := by simp
      rw [es]
      unfold sumE fitO
      by_cases hf : fits (x + c.f3)
      · rw [if_pos hf, if_pos hf]; exact Ev.now _
      · rw [if_neg hf, if_neg hf]; exact Ev.now _
def penR (acc : List Int) (o : Option (List Int)) : List Int × Int := match o with | some ys => (acc ++ ys, 0) | none => ([], 10)
theorem rpens_l1 (l : List S35) (rs : List Int) (x0 : Int) (hlen : l.length ≤ 100000) (hl : ∀ c ∈ l, okC c ∧ badTab c = false) : ∀ (r i : Nat) (x : Int) (acc : List Int), i + r = l.length → acc.length ≤ i + 1 → fits x →
    Ev (fun k => stickfulref12_Pens.l1 k l rs x acc (i : Int)) (penR acc (walk rs (l.drop i) i x)) := by
  intro r
  induction r with
  | zero =>
    intro i x acc hi ha hx
    rw [List.drop_of_length_le (by omega)]
    refine Ev.step (f := fun _ => some (acc, 0)) (fun k => ?_) (by simp only [walk, penR, List.append_nil]; exact Ev.now _)
    simp only [stickfulref12_Pens.l1]
    rw [if_neg (by omega)]
  | succ r ih =>
    intro i x acc hi ha hx
    obtain ⟨hc, hb⟩ := hl l[i] (List.getElem_mem (by omega))
    rw [List.drop_eq_getElem_cons (by omega)]
    simp only [walk]
    have hp : ∀ k, stickfulref12_Pens.l1 (k + 1) l rs x acc (i : Int) = stickfulref12_Pens.j2 k l rs x acc (i : Int) (roleAt rs i == 1) := by
      intro k
      simp only [stickfulref12_Pens.l1]
      rw [if_pos (by omega)]
      unfold roleAt
      by_cases hr : (i : Int) < (rs.length : Int)
      · rw [if_pos hr, if_pos hr, if_pos (by omega)]
      · rw [if_neg hr, if_neg hr]; rfl
    refine Ev.step hp ?_
    unfold nxtR
    by_cases h1 : roleAt rs i = 1
    · rw [if_pos h1, h1]
      have := ih (i + 1) x (acc ++ [x]) (by omega) (by simp; omega) hx
      have e : penR acc ((some x).bind fun y => (walk rs (l.drop (i + 1)) (i + 1) y).map (y :: ·)) = penR (acc ++ [x]) (walk rs (l.drop (i + 1)) (i + 1) x) := by
        rw [Option.bind_some]
        cases walk rs (l.drop (i + 1)) (i + 1) x <;> simp [penR]
      rw [e]
      refine Ev.step (fun k => ?_) this
      simp only [stickfulref12_Pens.j2]
      rw [if_pos (by decide), if_pos (by omega), w1 (by omega)]
    · rw [if_neg h1, show (roleAt rs i == 1) = false by simpa using h1]
      refine Ev.step (f := fun k => (stickfulref12_Step.f k l[i].f0 l[i].f1 l[i].f2 l[i].f3 l[i].f4 l[i].f5 x).bind fun bt => if bt.2 = 0 then (if acc.length < 17592186044416 then (stickfulref12_Pens.l1 k l rs bt.1 (acc ++ [bt.1]) (wrap64 ((i : Int) + 1))) else (none)) else (some (([] : List Int), bt.2))) (fun k => ?_) (Ev.bind (rstep_ev hc hb hx) ?_)
      · simp only [stickfulref12_Pens.j2]
        rw [if_neg (by decide), if_pos (by omega), if_pos (by omega), rd_nat l (by omega)]
      · cases hn : nxt l[i] x with
        | none => exact Ev.congr (f := fun _ => some (([] : List Int), (10 : Int))) (fun k => if_neg (by decide)) (Ev.now _)
        | some y =>
          have hy := nxt_fits hx hn
          have := ih (i + 1) y (acc ++ [y]) (by omega) (by simp; omega) hy
          have e : penR acc ((some y).bind fun y => (walk rs (l.drop (i + 1)) (i + 1) y).map (y :: ·)) = penR (acc ++ [y]) (walk rs (l.drop (i + 1)) (i + 1) y) := by
            rw [Option.bind_some]
            cases walk rs (l.drop (i + 1)) (i + 1) y <;> simp [penR]
          rw [e]
          refine Ev.congr (fun k => ?_) this
          simp only []
          rw [if_pos trivial, if_pos (by omega), w1 (by omega)]
theorem rpens_l0 (l : List S35) (rs : List Int) (x : Int) (hlen : l.length ≤ 100000) (hl : ∀ c ∈ l, okC c) : ∀ (r i : Nat), i + r = l.length → (l.take i).any badTab = false →
    Ev (fun k => stickfulref12_Pens.l0 k l rs x (i : Int)) (pensR rs l x) := by
  intro r
  induction r with
  | zero =>
    intro i hi ht
    rw [List.take_of_length_le (by omega)] at ht
    refine Ev.step (f := fun k => if decide (fits x) = true then stickfulref12_Pens.l1 k l rs x [x] 0 else some ([], 10)) (fun k => ?_) ?_
    · simp only [stickfulref12_Pens.l0]
      rw [if_neg (by omega), rfits12]
      rfl
    · unfold pensR
      rw [ht, if_neg (by decide)]
      by_cases hf : fits x
      · rw [if_pos hf]
        refine Ev.congr (fun k => if_pos (decide_eq_true hf)) ?_
        have := rpens_l1 l rs x hlen (fun c hc => ⟨hl c hc, by simpa using List.any_eq_false.1 ht c hc⟩) l.length 0 x [x] (by omega) (by simp) hf
        rw [List.drop_zero] at this
        cases hw : walk rs l 0 x with
        | none => rw [hw] at this; exact this
        | some ys => rw [hw] at this; exact this
      · rw [if_neg hf]
        exact Ev.congr (fun k => if_neg (by simpa using hf)) (Ev.now _)
  | succ r ih =>
    intro i hi ht
    by_cases hb : badTab l[i] = true
    · have h2 : l[i].f0 = 4 ∧ l[i].f3 < 0 := by unfold badTab at hb; simpa using hb
      have e : pensR rs l x = ([], 2) := by
        unfold pensR
        rw [if_pos (List.any_eq_true.2 ⟨l[i], List.getElem_mem _, hb⟩)]
      rw [e]
      refine Ev.step (f := fun _ => some (([] : List Int), (2 : Int))) (fun k => ?_) (Ev.now _)
      simp only [stickfulref12_Pens.l0]
      rw [if_pos (by omega), if_pos (by omega), rd_nat l (by omega), if_pos h2.1, if_pos h2.2]
    · have hb2 : badTab l[i] = false := by simpa using hb
      refine Ev.step (fun k => ?_) (ih (i + 1) (by omega) (by rw [List.take_add_one, List.any_append, ht, List.getElem?_eq_getElem (by omega)]; simp [hb2]))
      simp only [stickfulref12_Pens.l0]
      rw [if_pos (by omega), if_pos (by omega), rd_nat l (by omega), w1 (by omega)]
      by_cases h4 : l[i].f0 = 4
      · have h3 : ¬ l[i].f3 < 0 := by
          intro h
          unfold badTab at hb2
          rw [h4, decide_eq_true h] at hb2
          cases hb2
        rw [if_pos h4, if_neg h3]
      · rw [if_neg h4]
theorem rend_ev {l : List S35} {rs : List Int} {x : Int} (hlen : l.length ≤ 100000) (hl : ∀ c ∈ l, okC c) : Ev (fun k => stickfulref12_End.f k l rs x) (endR rs l x) := by
  unfold stickfulref12_End.f
  refine Ev.bind (a := pensR rs l x) (rpens_l0 l rs x hlen hl l.length 0 (by omega) rfl) ?_
  exact Ev.congr (fun k => end_tail hlen rfl) (Ev.now _)
def justP (a b : Int) (c : S35) : Bool := edgeB c || (c.f0 == a || c.f0 == b)
theorem redge (c : S35) : stickfulref13_edge.f c.f0 c.f1 c.f2 c.f3 c.f4 c.f5 = some (edgeB c) := by
  unfold stickfulref13_edge.f edgeB
  by_cases h1 : c.f0 = 7
  · simp [h1]
  · by_cases h2 : c.f0 = 8
    · simp [h2]
    · have b1 : (c.f0 == 7) = false := by simpa using h1
      have b2 : (c.f0 == 8) = false := by simpa using h2
      rw [if_neg h1, if_neg h2, b1, b2]; rfl
theorem rjust_l0 (l : List S35) (a b : Int) (hlen : l.length ≤ 100000) : ∀ (r i : Nat), i + r = l.length → Ev (fun k => stickfulref13_just.l0 k l a b (i : Int)) ((l.drop i).all (justP a b)) := by
  intro r
  induction r with
  | zero =>
    intro i hi
    rw [List.drop_of_length_le (by omega)]
    refine Ev.step (f := fun _ => some true) (fun k => ?_) (Ev.now _)
    simp only [stickfulref13_just.l0]
    rw [if_neg (by omega)]
  | succ r ih =>
    intro i hi
    rw [List.drop_eq_getElem_cons (by omega), List.all_cons]
    by_cases hj : justP a b l[i] = true
    · rw [hj, Bool.true_and]
      refine Ev.step (fun k => ?_) (ih (i + 1) (by omega))
      simp only [stickfulref13_just.l0]
      rw [if_pos (by omega), if_pos (by omega), rd_nat l (by omega), redge, Option.bind_some, w1 (by omega)]
      unfold justP at hj
      by_cases e1 : edgeB l[i] = true
      · rw [if_pos e1]
      · by_cases e2 : l[i].f0 = a
        · rw [if_neg e1, if_pos e2]
        · have e3 : l[i].f0 = b := by simpa [e1, e2] using hj
          rw [if_neg e1, if_neg e2, if_pos e3]
    · have hj2 : justP a b l[i] = false := by simpa using hj
      rw [hj2, Bool.false_and]
      refine Ev.step (f := fun _ => some false) (fun k => ?_) (Ev.now _)
      simp only [stickfulref13_just.l0]
      rw [if_pos (by omega), if_pos (by omega), rd_nat l (by omega), redge, Option.bind_some]
      have h3 : edgeB l[i] = false ∧ ¬ l[i].f0 = a ∧ ¬ l[i].f0 = b := by unfold justP at hj2; simpa using hj2
      rw [h3.1, if_neg (by decide), if_neg h3.2.1, if_neg h3.2.2]
theorem rjust_ev (l : List S35) (a b : Int) (hlen : l.length ≤ 100000) : Ev (fun k => stickfulref13_just.f k l a b) (l.all (justP a b)) := rjust_l0 l a b hlen l.length 0 (by omega)
theorem just11 : justP 1 1 = blankB := by funext c; unfold justP blankB; simp
theorem just12 : justP 1 2 = hangB := by funext c; unfold justP hangB blankB; simp [Bool.or_assoc]
theorem rrole_ev (l : List S35) (i : Nat) (hi : i < l.length) (hlen : l.length ≤ 100000) : Ev (fun k => stickfulref13_Role.f k l (i : Int)) (roleZ ((l.take i).all blankB) l[i] (l.drop (i + 1))) := by
  unfold stickfulref13_Role.f
  have hw : wrap64 ((i : Int) + 1) = ((i + 1 : Nat) : Int) := w1 (by omega)
  have ht : ((i : Int)).toNat = i := rfl
  have ht2 : (((i + 1 : Nat) : Int)).toNat = i + 1 := rfl
  have j_true : Ev (fun k => stickfulref13_Role.j0 k l (i : Int) true) 1 := Ev.step (f := fun _ => some 1) (fun k => by simp only [stickfulref13_Role.j0]; rw [if_pos trivial]) (Ev.now _)
  have j_false : l[i].f0 ≠ 2 → Ev (fun k => stickfulref13_Role.j0 k l (i : Int) false) 0 := fun h => Ev.step (f := fun _ => some 0) (fun k => by
    simp only [stickfulref13_Role.j0]
    rw [if_neg (by decide), if_pos (by omega), if_pos (by omega), rd_nat l hi, if_neg h]) (Ev.now _)
  by_cases h1 : l[i].f0 = 1
  · have h2 : l[i].f0 ≠ 2 := by omega
    refine Ev.congr (f := fun k => (stickfulref13_just.f k (l.take i) 1 1).bind fun t221 => (if t221 = true then (stickfulref13_Role.j0 k l (i : Int) true) else ((stickfulref13_just.f k (l.drop (i + 1)) 1 1).bind fun t226 => (stickfulref13_Role.j0 k l (i : Int) t226)))) (fun k => ?_) ?_
    · rw [if_pos (by omega), if_pos (by omega), rd_nat l hi, if_pos h1, if_pos (by omega), hw, ht, ht2]
      simp only [show (0 : Int) ≤ ((i + 1 : Nat) : Int) by omega, show ((i + 1 : Nat) : Int) ≤ (l.length : Int) by omega, if_true]
    · refine Ev.bind (rjust_ev _ 1 1 (by rw [List.length_take]; omega)) ?_
      rw [just11]
      unfold roleZ
      by_cases c1 : (l.take i).all blankB = true
      · rw [if_pos ⟨h1, .inl c1⟩]
        exact Ev.congr (fun k => if_pos c1) j_true
      · refine Ev.congr (fun k => if_neg c1) ?_
        refine Ev.bind (rjust_ev _ 1 1 (by rw [List.length_drop]; omega)) ?_
        rw [just11]
        by_cases c2 : (l.drop (i + 1)).all blankB = true
        · rw [if_pos ⟨h1, .inr c2⟩, c2]; exact j_true
        · rw [if_neg (fun h => h.2.elim c1 c2), if_neg (fun h => h2 h.1), show (l.drop (i + 1)).all blankB = false by simpa using c2]
          exact j_false h2
  · refine Ev.congr (f := fun k => stickfulref13_Role.j0 k l (i : Int) false) (fun k => by rw [if_pos (by omega), if_pos (by omega), rd_nat l hi, if_neg h1]) ?_
    unfold roleZ
    rw [if_neg (fun h => h1 h.1)]
    by_cases h2 : l[i].f0 = 2
    · refine Ev.step (f := fun k => (stickfulref13_just.f k (l.drop (i + 1)) 1 2).bind fun t232 => (if t232 = true then (some 2) else (some 0))) (fun k => ?_) ?_
      · simp only [stickfulref13_Role.j0]
        rw [if_neg (by decide), if_pos (by omega), if_pos (by omega), rd_nat l hi, if_pos h2, hw, if_pos (by omega), if_pos (by omega), ht2]
      · refine Ev.bind (rjust_ev _ 1 2 (by rw [List.length_drop]; omega)) ?_
        rw [just12]
        by_cases c : (l.drop (i + 1)).all hangB = true
        · rw [if_pos (show l[i].f0 = 2 ∧ (l.drop (i + 1)).all hangB = true from ⟨h2, c⟩)]; exact Ev.congr (fun k => if_pos c) (Ev.now _)
        · rw [if_neg (show ¬ (l[i].f0 = 2 ∧ (l.drop (i + 1)).all hangB = true) from fun h => c h.2)]; exact Ev.congr (fun k => if_neg c) (Ev.now _)
    · rw [if_neg (fun h => h2 h.1)]
      exact j_false h2
theorem rrole_ev2 (l : List S35) (i : Nat) (hi : i < l.length) (hlen : l.length ≤ 100000) : Ev (fun k => stickfulref13_Role.f k l (i : Int)) (rd (rolesZ true l) (i : Int)) := by
  rw [rolesZ_get true l i hi, Bool.true_and]
  exact rrole_ev l i hi hlen
theorem take_rd (t : List Int) {i : Nat} (hi : i < t.length) : t.take i ++ [rd t (i : Int)] = t.take (i + 1) := by
  rw [List.take_add_one, List.getElem?_eq_getElem hi, rd_int t hi]; rfl
theorem rroles_l0 (l : List S35) (hlen : l.length ≤ 100000) : ∀ (r i : Nat), i + r = l.length → Ev (fun k => stickfulref13_Roles.l0 k l ((rolesZ true l).take i) (i : Int)) (rolesZ true l) := by
  intro r
  have hz := rolesZ_len true l
  induction r with
  | zero =>
    intro i hi
    rw [List.take_of_length_le (by omega)]
    refine Ev.step (f := fun _ => some (rolesZ true l)) (fun k => ?_) (Ev.now _)
    simp only [stickfulref13_Roles.l0]
    rw [if_neg (by omega)]
  | succ r ih =>
    intro i hi
    refine Ev.step (f := fun k => (stickfulref13_Role.f k l (i : Int)).bind fun t233 => (if ((rolesZ true l).take i).length < 140737488355328 then (stickfulref13_Roles.l0 k l (((rolesZ true l).take i) ++ [t233]) (wrap64 ((i : Int) + 1))) else (none))) (fun k => ?_) (Ev.bind (rrole_ev2 l i (by omega) hlen) ?_)
    · simp only [stickfulref13_Roles.l0]
      rw [if_pos (by omega)]
    · refine Ev.congr (fun k => ?_) (ih (i + 1) (by omega))
      rw [if_pos (by rw [List.length_take]; omega), take_rd _ (by omega), w1 (by omega)]
theorem rroles_ev (l : List S35) (hlen : l.length ≤ 100000) : Ev (fun k => stickfulref13_Roles.f k l) (rolesZ true l) := rroles_l0 l hlen l.length 0 (by omega)
theorem rfits_l0 {l : List S35} {x : Int} (hlen : l.length ≤ 100000) (hl : ∀ c ∈ l, okC c) (t : List Int) (ht : t.length ≤ 100000) : ∀ (r i : Nat), i + r = t.length → Ev (fun k => stickfulref13_Fits.l0 k l x (hangG t i) (i : Int)) (endR (t.map unH) l x) := by
  intro r
  induction r with
  | zero =>
    intro i hi
    have he : i = t.length := by omega
    subst he
    refine Ev.step (f := fun k => (stickfulref12_End.f k l (hangG t t.length) x).bind fun bt => some (bt.1, bt.2)) (fun k => ?_) ?_
    · simp only [stickfulref13_Fits.l0]
      rw [if_neg (by rw [hangG_len]; omega)]
    · rw [hangG_map]
      exact Ev.bind (rend_ev hlen hl) (Ev.now _)
  | succ r ih =>
    intro i hi
    refine Ev.step (fun k => ?_) (ih (i + 1) (by omega))
    simp only [stickfulref13_Fits.l0, hangG]
    rw [if_pos (by rw [hangG_len]; omega), if_pos (by omega), w1 (by omega)]
    have en : rdOf (0 : Int) (hangG t i) (i : Int) = rd (hangG t i) (i : Int) := rfl
    rw [en]
    by_cases h : rd (hangG t i) (i : Int) = 2
    · rw [if_pos h, if_pos h]; rfl
    · rw [if_neg h, if_neg h]
theorem rfits_ev {l : List S35} {x : Int} (hlen : l.length ≤ 100000) (hl : ∀ c ∈ l, okC c) : Ev (fun k => stickfulref13_Fits.f k l x) (endR ((rolesZ true l).map unH) l x) := by
  unfold stickfulref13_Fits.f
  exact Ev.bind (rroles_ev l hlen) (rfits_l0 hlen hl _ (by rw [rolesZ_len]; exact hlen) (rolesZ true l).length 0 (by omega))
end Go.Proofs.Ytkegnlidlabjeaa.PureI
namespace Go.Proofs.Ytkegnlidlabjeaa.PureI
set_option linter.unusedVariables false
set_option linter.unusedSimpArgs false
open Go.RowKit Go.Proofs.YtkegnlidlabjeaaW.PrintWords Go.Proofs.YtkegnlidlabjeaaW.PrintLast Go.Proofs.YtkegnlidlabjeaaW.PrintMore Go.Proofs.Ytkegnlidlabjeaa.Hand Go.Proofs.Ytkegnlidlabjeaa.HIntr
def cutB (s : Bool) : S35 → Bool := if s = true then softB else neverB
def rest (l : List S35) (p : S35 → Bool) (fr i : Nat) : List S50 := if fr = i then pP l p (i : Int) else ⟨(fr : Int), eP l p (i : Int)⟩ :: pP l p (eP l p (i : Int))
theorem cuts_j1 {l : List S35} {s : Bool} (hlen : l.length ≤ 100000) {i fr : Nat} (hi : i < l.length) (hfr : fr ≤ i) (hprev : fr < i → (rd_T35 l ((i : Int) - 1)).f0 ≠ 5) {out : List S50} (ho : out.length ≤ 2 * i) {q : Bool}
    (hq : q = (decide (fr < i) && cutB s (rd_T35 l (i : Int))))
    (ih : ∀ (fr' : Nat) (out' : List S50), fr' ≤ i + 1 → (fr' < i + 1 → (rd_T35 l (((i + 1 : Nat) : Int) - 1)).f0 ≠ 5) → out'.length ≤ 2 * (i + 1) → Ev (fun k => stickfulref21_Cuts.l0 k l s out' (fr' : Int) (decide (fr' = i + 1)) ((i + 1 : Nat) : Int)) (out' ++ rest l (cutB s) fr' (i + 1))) :
    Ev (fun k => stickfulref21_Cuts.j1 k l s out (fr : Int) (i : Int) q) (out ++ rest l (cutB s) fr i) := by
  have ei : (((i + 1 : Nat) : Int) - 1) = (i : Int) := by omega
  have hw : wrap64 ((i : Int) + 1) = ((i + 1 : Nat) : Int) := w1 (by omega)
  have e1 : ((i : Int) + 1) = ((i + 1 : Nat) : Int) := by omega
  rw [ei] at ih
  cases q with
  | true =>
    have h2 : fr < i ∧ cutB s (rd_T35 l (i : Int)) = true := by simpa using hq.symm
    have er : rest l (cutB s) fr i = ⟨(fr : Int), (i : Int)⟩ :: pP l (cutB s) (i : Int) := by
      unfold rest
      rw [if_neg (by omega), eP_stop (fun h => by rw [h2.2] at h; exact absurd h.2.2 (by decide))]
    rw [er]
    have ep := pP_cons (p := cutB s) (i := (i : Int)) (by omega) (show (i : Int) < (l.length : Int) by omega)
    by_cases h5 : (rd_T35 l (i : Int)).f0 = 5
    · have e5 : eP l (cutB s) ((i : Int) + 1) = (i : Int) + 1 := eP_stop (fun h => by
        have := h.2.1
        rw [show (i : Int) + 1 - 1 = (i : Int) by omega] at this
        exact this h5)
      have := ih (i + 1) (out ++ [⟨(fr : Int), (i : Int)⟩] ++ [⟨(i : Int), ((i + 1 : Nat) : Int)⟩]) (Nat.le_refl _) (fun h => by omega) (by simp; omega)
      rw [decide_eq_true rfl] at this
      have e7 : out ++ (⟨(fr : Int), (i : Int)⟩ :: pP l (cutB s) (i : Int)) = out ++ [⟨(fr : Int), (i : Int)⟩] ++ [⟨(i : Int), ((i + 1 : Nat) : Int)⟩] ++ rest l (cutB s) (i + 1) (i + 1) := by
        rw [ep, e5, e1]
        unfold rest
        rw [if_pos rfl]
        simp
      rw [e7]
      refine Ev.step (fun k => ?_) this
      simp only [stickfulref21_Cuts.j1]
      rw [if_pos trivial, if_pos (by omega), Option.bind_some, if_pos (by omega), if_pos (by omega), if_pos h5, if_pos (by simp; omega), hw]
    · have := ih i (out ++ [⟨(fr : Int), (i : Int)⟩]) (by omega) (fun _ => h5) (by simp; omega)
      rw [decide_eq_false (show ¬ i = i + 1 by omega)] at this
      have e7 : out ++ (⟨(fr : Int), (i : Int)⟩ :: pP l (cutB s) (i : Int)) = out ++ [⟨(fr : Int), (i : Int)⟩] ++ rest l (cutB s) i (i + 1) := by
        rw [ep, e1]
        unfold rest
        rw [if_neg (by omega)]
        simp
      rw [e7]
      refine Ev.step (fun k => ?_) this
      simp only [stickfulref21_Cuts.j1]
      rw [if_pos trivial, if_pos (by omega), Option.bind_some, if_pos (by omega), if_pos (by omega), if_neg h5, hw]
  | false =>
    -- the part goes on
    have key : rest l (cutB s) fr i = ⟨(fr : Int), eP l (cutB s) ((i + 1 : Nat) : Int)⟩ :: pP l (cutB s) (eP l (cutB s) ((i + 1 : Nat) : Int)) := by
      unfold rest
      by_cases hf : fr = i
      · rw [if_pos hf, pP_cons (by omega) (by omega), e1, hf]
      · have hp : cutB s (rd_T35 l (i : Int)) = false := by
          have : (decide (fr < i) && cutB s (rd_T35 l (i : Int))) = false := hq.symm
          rw [decide_eq_true (by omega), Bool.true_and] at this
          exact this
        rw [if_neg hf, eP_go (by omega) (by omega) (hprev (by omega)) hp, e1]
    by_cases h5 : (rd_T35 l (i : Int)).f0 = 5
    · have e5 : eP l (cutB s) ((i + 1 : Nat) : Int) = ((i + 1 : Nat) : Int) := eP_stop (fun h => by
        have := h.2.1
        rw [ei] at this
        exact this h5)
      have := ih (i + 1) (out ++ [⟨(fr : Int), ((i + 1 : Nat) : Int)⟩]) (Nat.le_refl _) (fun h => by omega) (by simp; omega)
      rw [decide_eq_true rfl] at this
      have e7 : out ++ rest l (cutB s) fr i = out ++ [⟨(fr : Int), ((i + 1 : Nat) : Int)⟩] ++ rest l (cutB s) (i + 1) (i + 1) := by
        rw [key, e5]
        unfold rest
        rw [if_pos rfl]
        simp
      rw [e7]
      refine Ev.step (fun k => ?_) this
      simp only [stickfulref21_Cuts.j1]
      rw [if_neg (by decide), if_pos (by omega), if_pos (by omega), if_pos h5, if_pos (by omega), hw]
    · have := ih fr out (by omega) (fun _ => h5) (by omega)
      rw [decide_eq_false (show ¬ fr = i + 1 by omega)] at this
      have e7 : out ++ rest l (cutB s) fr i = out ++ rest l (cutB s) fr (i + 1) := by
        rw [key]
        unfold rest
        rw [if_neg (by omega)]
      rw [e7]
      refine Ev.step (fun k => ?_) this
      simp only [stickfulref21_Cuts.j1]
      rw [if_neg (by decide), if_pos (by omega), if_pos (by omega), if_neg h5, hw]
theorem cuts_l0 (l : List S35) (s : Bool) (hlen : l.length ≤ 100000) : ∀ (r i fr : Nat) (out : List S50), i + r = l.length → fr ≤ i → (fr < i → (rd_T35 l ((i : Int) - 1)).f0 ≠ 5) → out.length ≤ 2 * i →
    Ev (fun k => stickfulref21_Cuts.l0 k l s out (fr : Int) (decide (fr = i)) (i : Int)) (out ++ rest l (cutB s) fr i) := by
  intro r
  induction r with
  | zero =>
    intro i fr out hi hfr hprev ho
    by_cases hf : fr = i
    · have e : rest l (cutB s) fr i = [] := by
        unfold rest
        rw [if_pos hf, pP_nil (by omega)]
      rw [e, List.append_nil]
      refine Ev.step (f := fun _ => some out) (fun k => ?_) (Ev.now _)
      simp only [stickfulref21_Cuts.l0]
      rw [if_neg (by omega), if_neg (by omega)]
    · have e : rest l (cutB s) fr i = [⟨(fr : Int), (l.length : Int)⟩] := by
        unfold rest
        rw [if_neg hf, eP_stop (fun h => by omega), pP_nil (by omega), show (i : Int) = (l.length : Int) by omega]
      rw [e]
      refine Ev.step (f := fun _ => some (out ++ [⟨(fr : Int), (l.length : Int)⟩])) (fun k => ?_) (Ev.now _)
      simp only [stickfulref21_Cuts.l0]
      rw [if_neg (by omega), if_pos (by omega), if_pos (by omega)]
  | succ r ih =>
    intro i fr out hi hfr hprev ho
    have hih : ∀ (fr' : Nat) (out' : List S50), fr' ≤ i + 1 → (fr' < i + 1 → (rd_T35 l (((i + 1 : Nat) : Int) - 1)).f0 ≠ 5) → out'.length ≤ 2 * (i + 1) → Ev (fun k => stickfulref21_Cuts.l0 k l s out' (fr' : Int) (decide (fr' = i + 1)) ((i + 1 : Nat) : Int)) (out' ++ rest l (cutB s) fr' (i + 1)) := fun fr' out' h1 h2 h3 => ih (i + 1) fr' out' (by omega) h1 h2 h3
    by_cases hf : fr = i
    · refine Ev.step (f := fun k => stickfulref21_Cuts.j1 k l s out (fr : Int) (i : Int) false) (fun k => ?_) (cuts_j1 hlen (by omega) hfr hprev ho (by rw [decide_eq_false (by omega)]; rfl) hih)
      simp only [stickfulref21_Cuts.l0]
      rw [if_pos (by omega), decide_eq_true hf, if_pos rfl]
    · have hlt : fr < i := by omega
      cases s with
      | false =>
        refine Ev.step (f := fun k => stickfulref21_Cuts.j1 k l false out (fr : Int) (i : Int) false) (fun k => ?_) (cuts_j1 hlen (by omega) hfr hprev ho (by rw [decide_eq_true hlt]; rfl) hih)
        simp only [stickfulref21_Cuts.l0]
        rw [if_pos (by omega), decide_eq_false hf, if_neg (by decide), if_neg (by decide)]
      | true =>
        have hs : cutB true (rd_T35 l (i : Int)) = ((rd_T35 l (i : Int)).f4 || (rd_T35 l (i : Int)).f5) := rfl
        refine Ev.step (f := fun k => stickfulref21_Cuts.j1 k l true out (fr : Int) (i : Int) ((rd_T35 l (i : Int)).f4 || (rd_T35 l (i : Int)).f5)) (fun k => ?_) (cuts_j1 hlen (by omega) hfr hprev ho (by rw [decide_eq_true hlt, Bool.true_and]; rfl) hih)
        simp only [stickfulref21_Cuts.l0]
        rw [if_pos (by omega), decide_eq_false hf, if_neg (by decide), if_pos trivial, if_pos (by omega)]
        by_cases h4 : (rd_T35 l (i : Int)).f4 = true
        · rw [if_pos h4, h4]; rfl
        · rw [if_neg h4, show (rd_T35 l (i : Int)).f4 = false by simpa using h4]; rfl
theorem cuts_ev (l : List S35) (s : Bool) (hlen : l.length ≤ 100000) : Ev (fun k => stickfulref21_Cuts.f k l s) (pP l (cutB s) 0) := by
  have := cuts_l0 l s hlen l.length 0 0 [] (by omega) (Nat.le_refl _) (fun h => by omega) (by simp)
  exact this
theorem rwid_l0 (l : List S35) (hlen : l.length ≤ 100000) (hl : ∀ c ∈ l, okC c) (xs : List S50) (hxs : ∀ x ∈ xs, 0 ≤ x.f0 ∧ x.f0 ≤ x.f1 ∧ x.f1 ≤ (l.length : Int)) (hxl : xs.length ≤ 1000000) : ∀ (r i : Nat) (n : Int), i + r = xs.length →
    Ev (fun k => stickfulref21_widest.l0 k l xs n (i : Int)) (widG l (xs.drop i) n) := by
  intro r
  induction r with
  | zero =>
    intro i n hi
    rw [List.drop_of_length_le (by omega)]
    refine Ev.step (f := fun _ => some (n, 0)) (fun k => ?_) (Ev.now _)
    simp only [stickfulref21_widest.l0]
    rw [if_neg (by omega)]
  | succ r ih =>
    intro i n hi
    have hx : rd_T50 xs (i : Int) = xs[i]'(by omega) := by
      unfold rd_T50
      simp [List.getD, show i < xs.length by omega]
    obtain ⟨h0, h1, h2⟩ := hxs (xs[i]'(by omega)) (List.getElem_mem _)
    rw [List.drop_eq_getElem_cons (by omega)]
    simp only [widG]
    generalize xs[i]'(by omega) = x at hx h0 h1 h2 ⊢
    refine Ev.step (f := fun k => (stickfulref13_Fits.f k (subL l x) 0).bind fun bt => (if bt.2 = 0 then (stickfulref21_widest.l0 k l xs (mx n bt.1) (wrap64 ((i : Int) + 1))) else (some (0, bt.2)))) (fun k => ?_) ?_
    · simp only [stickfulref21_widest.l0]
      rw [if_pos (by omega), if_pos (by omega), hx, if_pos h0, if_pos h1, if_pos h2]
      rfl
    · refine Ev.bind (rfits_ev (Nat.le_trans (sub_len l x) hlen) (fun c hc => hl c (sub_mem hc))) ?_
      show Ev _ (if (wide (subL l x)).2 = 0 then widG l (xs.drop (i + 1)) (mx n (wide (subL l x)).1) else wide (subL l x))
      by_cases h : (wide (subL l x)).2 = 0
      · rw [if_pos h]
        refine Ev.congr (fun k => if_pos h) ?_
        rw [w1 (by omega)]
        exact ih (i + 1) _ (by omega)
      · rw [if_neg h, wide_err _ h]
        exact Ev.congr (fun k => if_neg h) (Ev.now _)
theorem widG_err (l : List S35) : ∀ (xs : List S50) (n : Int), (widG l xs n).2 ≠ 0 → widG l xs n = (0, (widG l xs n).2)
  | [], n, h => absurd rfl h
  | x :: xs, n, h => by
    simp only [widG] at h ⊢
    by_cases hz : (wide (subL l x)).2 = 0
    · rw [if_pos hz] at h ⊢; exact widG_err l xs _ h
    · rw [if_neg hz]; exact wide_err _ hz
theorem rmm_ev {l : List S35} (hlen : l.length ≤ 100000) (hl : ∀ c ∈ l, okC c) : Ev (fun k => stickfulref21_MinMax.f k l) (mmR l) := by
  have hn : ∀ p, (pP l p 0).length ≤ 1000000 := fun p => by
    have := partsL_len l p (l.length + 1) 0
    unfold pP
    omega
  unfold stickfulref21_MinMax.f mmR
  refine Ev.bind (cuts_ev l true hlen) ?_
  refine Ev.bind (rwid_l0 l hlen hl (pP l (cutB true) 0) pP_in (hn _) (pP l (cutB true) 0).length 0 0 (by omega)) ?_
  rw [List.drop_zero]
  show Ev _ (if (widG l (pP l softB 0) 0).2 = 0 then _ else _)
  by_cases h : (widG l (pP l softB 0) 0).2 = 0
  · rw [if_pos h]
    refine Ev.congr (fun k => if_pos h) ?_
    refine Ev.bind (cuts_ev l false hlen) ?_
    refine Ev.bind (rwid_l0 l hlen hl (pP l (cutB false) 0) pP_in (hn _) (pP l (cutB false) 0).length 0 _ (by omega)) ?_
    rw [List.drop_zero]
    show Ev _ (if (widG l (pP l neverB 0) (widG l (pP l softB 0) 0).1).2 = 0 then _ else _)
    by_cases h2 : (widG l (pP l neverB 0) (widG l (pP l softB 0) 0).1).2 = 0
    · rw [if_pos h2]; exact Ev.congr (fun k => if_pos h2) (Ev.now _)
    · rw [if_neg h2]; exact Ev.congr (fun k => if_neg h2) (Ev.now _)
  · rw [if_neg h]
    exact Ev.congr (fun k => if_neg h) (Ev.now _)
theorem same21_l0 (l : List S50) (hl : l.length ≤ 1000000) : ∀ (r i : Nat), i + r = l.length → Ev (fun k => stickfulref21_Same.l0 k l l (i : Int)) true := by
  intro r
  induction r with
  | zero =>
    intro i hi
    refine Ev.step (f := fun _ => some true) (fun k => ?_) (Ev.now _)
    simp only [stickfulref21_Same.l0]
    rw [if_neg (by omega)]
  | succ r ih =>
    intro i hi
    refine Ev.step (fun k => ?_) (ih (i + 1) (by omega))
    simp only [stickfulref21_Same.l0]
    rw [if_pos (by omega), if_pos (by omega), if_pos (by omega), if_neg (by simp), w1 (by omega)]
theorem same21_ev (l : List S50) (hl : l.length ≤ 1000000) : Ev (fun k => stickfulref21_Same.f k l l) true := by
  refine Ev.congr (fun k => ?_) (same21_l0 l hl l.length 0 (by omega))
  unfold stickfulref21_Same.f
  rw [if_pos rfl]
  rfl
theorem IntrinsicTells : stickfullaw21_IntrinsicTells.Pure := by
  intro l hl
  refine Ev.rounds (r := true) ?_
  show Ev (fun k => stickfullaw21_IntrinsicTells.f k l) true
  have hok : ∀ d ∈ l, okC d := fun d hd => okC_of (hl.2.2 d hd)
  unfold stickfullaw21_IntrinsicTells.f
  refine Ev.bind (a := decide ((l.length : Int) > 120)) (Ev.now _) ?_
  by_cases h1 : (l.length : Int) > 120
  · exact Ev.congr (fun k => if_pos (decide_eq_true h1)) head_ev2
  · refine Ev.congr (fun k => if_neg (by simpa using h1)) ?_
    have hlen : l.length ≤ 100000 := by omega
    have hn : ∀ p, (pP l p 0).length ≤ 1000000 := fun p => by
      have := partsL_len l p (l.length + 1) 0
      unfold pP
      omega
    rw [mm_eq hlen hok, lines_eq hlen, pieces_eq hlen]
    refine Ev.bind (a := mmR l) (Ev.now _) ?_
    refine Ev.bind (rmm_ev hlen hok) ?_
    refine Ev.congr (fun k => (if_pos rfl).trans ((if_pos rfl).trans (if_pos rfl))) ?_
    refine Ev.bind (a := pP l neverB 0) (Ev.now _) ?_
    refine Ev.bind (cuts_ev l false hlen) ?_
    refine Ev.bind (same21_ev (pP l neverB 0) (hn _)) ?_
    refine Ev.congr (fun k => if_pos rfl) ?_
    refine Ev.bind (a := pP l softB 0) (Ev.now _) ?_
    refine Ev.bind (cuts_ev l true hlen) ?_
    refine Ev.bind (same21_ev (pP l softB 0) (hn _)) ?_
    exact Ev.congr (fun k => if_pos rfl) head_ev2
end Go.Proofs.Ytkegnlidlabjeaa.PureI
namespace Go.Proofs.Ytkegnlidlabjeaa.Pure
theorem IntrinsicTells : Go.Proofs.Ytkegnlidlabjeaa.HIntr.stickfullaw21_IntrinsicTells.Pure := Go.Proofs.Ytkegnlidlabjeaa.PureI.IntrinsicTells
end Go.Proofs.Ytkegnlidlabjeaa.Pure
