/- Plain laws of chapter 13: how many cells are no edges. No condition of its own. -/
import Derived.Test.YtkegnlidlabjeaaPureTr
import Derived.Test.YtkegnlidlabjeaaHTrimx16
namespace Go.Proofs.Ytkegnlidlabjeaa.Pure
set_option linter.unusedVariables false
set_option linter.unusedSimpArgs false
open Go.RowKit Go.Proofs.YtkegnlidlabjeaaW.PrintWords Go.Proofs.YtkegnlidlabjeaaW.PrintLast Go.Proofs.YtkegnlidlabjeaaW.PrintMore Go.Proofs.Ytkegnlidlabjeaa.Hand Go.Proofs.Ytkegnlidlabjeaa.HTrim
theorem rd_int (l : List Int) {i : Nat} (hi : i < l.length) : rd l (i : Int) = l[i] := by unfold rd; simp [List.getD, hi]
def cnt : List S35 → Nat
  | [] => 0
  | c :: s => (if edgeB c = true then 0 else 1) + cnt s
theorem cnt_le : ∀ l : List S35, cnt l ≤ l.length
  | [] => Nat.le_refl _
  | c :: s => by
    have := cnt_le s
    simp only [cnt, List.length_cons]
    split <;> omega
theorem cnt_zero : ∀ {l : List S35}, cnt l = 0 → l.all edgeB = true
  | [], _ => rfl
  | c :: s, h => by
    simp only [cnt] at h
    by_cases he : edgeB c = true
    · rw [if_pos he] at h
      rw [List.all_cons, he, Bool.true_and]
      exact cnt_zero (by omega)
    · rw [if_neg he] at h
      omega
theorem some_l0 (l : List S35) (hl : l.length ≤ 100000) : ∀ (r i n : Nat), i + r = l.length → n ≤ i → Ev (fun k => stickfullaw13_some.l0 k l (n : Int) (i : Int)) ((n + cnt (l.drop i) : Nat) : Int) := by
  intro r
  induction r with
  | zero =>
    intro i n hi hn
    rw [List.drop_of_length_le (by omega)]
    refine Ev.step (f := fun _ => some ((n : Nat) : Int)) (fun k => ?_) (Ev.now _)
    simp only [stickfullaw13_some.l0]
    rw [if_neg (by omega)]
  | succ r ih =>
    intro i n hi hn
    rw [List.drop_eq_getElem_cons (by omega)]
    simp only [cnt]
    by_cases he : edgeB l[i] = true
    · rw [if_pos he]
      have h2 : l[i].f0 = 7 ∨ l[i].f0 = 8 ∨ l[i].f0 = 5 := by unfold edgeB at he; simpa using he
      have := ih (i + 1) n (by omega) (by omega)
      rw [show n + (0 + cnt (l.drop (i + 1))) = n + cnt (l.drop (i + 1)) by omega]
      refine Ev.step (fun k => ?_) this
      simp only [stickfullaw13_some.l0]
      rw [if_pos (by omega), if_pos (by omega), rd_nat l (by omega), w1 (by omega)]
      by_cases c1 : l[i].f0 = 7
      · rw [if_pos c1]
      · by_cases c2 : l[i].f0 = 8
        · rw [if_neg c1, if_pos c2]
        · rw [if_neg c1, if_neg c2, if_pos (by omega)]
    · rw [if_neg he]
      have h2 : ¬ l[i].f0 = 7 ∧ ¬ l[i].f0 = 8 ∧ ¬ l[i].f0 = 5 := by unfold edgeB at he; simpa using he
      have := ih (i + 1) (n + 1) (by omega) (by omega)
      rw [show n + (1 + cnt (l.drop (i + 1))) = n + 1 + cnt (l.drop (i + 1)) by omega]
      refine Ev.step (fun k => ?_) this
      simp only [stickfullaw13_some.l0]
      rw [if_pos (by omega), if_pos (by omega), rd_nat l (by omega), if_neg h2.1, if_neg h2.2.1, if_neg h2.2.2, w1 (by omega), w1 (by omega)]
theorem some_ev (l : List S35) (hl : l.length ≤ 100000) : Ev (fun k => stickfullaw13_some.f k l) ((cnt l : Nat) : Int) := by
  have := some_l0 l hl l.length 0 0 (by omega) (by omega)
  rw [Nat.zero_add, List.drop_zero] at this
  exact this
theorem blank_of_edge {l : List S35} (h : l.all edgeB = true) : l.all blankB = true := by
  rw [List.all_eq_true] at h ⊢
  intro c hc
  unfold blankB
  rw [h c hc]
  rfl
end Go.Proofs.Ytkegnlidlabjeaa.Pure
