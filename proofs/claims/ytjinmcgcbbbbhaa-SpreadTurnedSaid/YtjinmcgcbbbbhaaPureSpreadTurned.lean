/- SpreadTurned: at most 200 pieces of any numbers, in any width: of pieces that are turned, room is given turned; for every slice within the reading's reach. -/
import Derived.Test.YtjinmcgcbbbbhaaHSpreadx5
import Derived.Test.YtjinmcgcbbbbhaaPureSp
namespace Go.Proofs.Ytjinmcgcbbbbhaa.Pure
open Go.RowKit Go.Proofs.Ytjinmcgcbbbbhaa.HSpread Go.Proofs.YtjinmcgcbbbbhaaW.PrintWords Go.Proofs.YtjinmcgcbbbbhaaW.PrintLast

theorem sum_reverse' (l : List Int) : l.reverse.sum = l.sum := by
  induction l with
  | nil => rfl
  | cons x l ih => rw [List.reverse_cons, List.sum_append, ih]; simp; omega
theorem ps_reverse (l : List Int) {k : Nat} (_ : k ≤ l.length) : ps l.reverse k = l.sum - ps l (l.length - k) := by
  unfold ps
  have e : l.reverse.take k = (l.drop (l.length - k)).reverse := by rw [List.take_reverse]
  rw [e, sum_reverse']
  have h2 : (l.take (l.length - k)).sum + (l.drop (l.length - k)).sum = l.sum := by rw [← List.sum_append, List.take_append_drop]
  omega
theorem ans_reverse (l : List Int) (a : Int) : (ans l.reverse a).2 = (ans l a).2 := by
  unfold ans
  have e : (∀ x ∈ l.reverse, okLen x) ↔ ∀ x ∈ l, okLen x := by simp
  by_cases h : okLen a ∧ ∀ x ∈ l, okLen x
  · rw [if_pos h, if_pos ⟨h.1, e.2 h.2⟩, sum_reverse']
    split <;> rfl
  · rw [if_neg h, if_neg (fun hc => h ⟨hc.1, e.1 hc.2⟩)]

theorem turned_l1 {l : List Int} {a : Int} (hl : l.length ≤ 200) (ha : okLen a) (h : ∀ x ∈ l, okLen x) (hr : 0 ≤ a - l.sum) : ∀ (d i : Nat), i + d = l.length →
    Ev (fun k => stickfullaw17_SpreadTurned.l1 k l a (placed l a) (placed l.reverse a) (i : Int)) true := by
  intro d
  have hs := ps_bounds h l.length (Nat.le_refl _)
  rw [sum_eq] at hs
  have ha1 := ha.1
  have ha2 := ha.2
  induction d with
  | zero =>
    intro i hi
    refine Ev.step (f := fun k => (stickfullaw17_head.f k).bind fun t => some t) (fun k => ?_) head_ev2
    simp only [stickfullaw17_SpreadTurned.l1]
    rw [if_neg (by rw [placed_length]; omega)]
  | succ d ih =>
    intro i hi
    have hlt : i < l.length := by omega
    obtain ⟨j, hj⟩ : ∃ j, i + j + 1 = l.length := ⟨l.length - 1 - i, by omega⟩
    have c1 : (i : Int) < ((placed l a).length : Int) := by rw [placed_length]; omega
    have c3 : 0 ≤ (i : Int) := by omega
    have c5 : (i : Int) < (l.length : Int) := by omega
    have c6 : 0 ≤ (j : Int) := by omega
    have c7 : (j : Int) < ((placed l.reverse a).length : Int) := by rw [placed_length, List.length_reverse]; omega
    have b1 := share_bounds hr hlt
    have hp := ps_bounds h i (by omega)
    have hp1 := ps_bounds h (i + 1) (by omega)
    have hx := ok_rd h hlt
    have hx1 := hx.1
    have hx2 := hx.2
    have hps := ps_succ l i hlt
    have hb : rd (placed l.reverse a) j = a - ps l (i + 1) - ((a - l.sum) - share (a - l.sum) l.length j) := by
      have e := rd_placed' (l := l.reverse) (a := a) (i := j) (by rw [List.length_reverse]; omega)
      rw [e, ps_reverse l (by omega), sum_reverse', List.length_reverse, show l.length - j = i + 1 by omega]
      omega
    have hm := share_mirror (r := a - l.sum) (show 0 < l.length by omega) hj
    have ei : wrap64 (wrap64 (((placed l a).length : Int) - 1) - (i : Int)) = (j : Int) := by
      rw [placed_length, w64 (x := (l.length : Int) - 1) (by omega) (by omega), w64 (by omega) (by omega)]
      omega
    have ew : wrap64 (wrap64 (a - rd (placed l a) i) - rd l i) = a - ps l (i + 1) - share (a - l.sum) l.length i := by
      rw [rd_placed' hlt, w64 (x := a - (ps l i + share (a - l.sum) l.length i)) (by omega) (by omega), w64 (by omega) (by omega)]
      omega
    have ev : wrap64 (a - ps l (i + 1) - share (a - l.sum) l.length i - 1) = a - ps l (i + 1) - share (a - l.sum) l.length i - 1 := w64 (by omega) (by omega)
    have e2 : wrap64 ((i : Int) + 1) = ((i + 1 : Nat) : Int) := by rw [w64 (by omega) (by omega)]; rfl
    refine Ev.step (fun k => ?_) (ih (i + 1) (by omega))
    simp only [stickfullaw17_SpreadTurned.l1]
    rw [if_pos c1, if_pos c3, if_pos c5, ei, if_pos c6, if_pos c7, hb, ew, ev, e2]
    rcases hm with hm | hm
    · rw [hm, if_pos rfl]
    · rw [hm, if_neg (by clear ei ew ev e2 hb; omega), if_pos (by clear ei ew ev e2 hb; omega)]

theorem turned_l0 {l : List Int} {a : Int} (hl : l.length ≤ 200) (r : Bool) (hfin : Ev (fun k => stickfullaw17_SpreadTurned.l0 k l a l.reverse (-1)) r) : ∀ (i : Nat), i ≤ l.length →
    Ev (fun k => stickfullaw17_SpreadTurned.l0 k l a (l.reverse.take (l.length - i)) ((i : Int) - 1)) r := by
  intro i
  induction i with
  | zero =>
    intro _
    rw [List.take_of_length_le (by simp)]
    simpa using hfin
  | succ i ih =>
    intro hi
    have hlt : i < l.length := by omega
    have c1 : ((i + 1 : Nat) : Int) - 1 ≥ 0 := by omega
    have c2 : ((i + 1 : Nat) : Int) - 1 < (l.length : Int) := by omega
    have c3 : (l.reverse.take (l.length - (i + 1))).length < 17592186044416 := by rw [List.length_take]; omega
    have e1 : wrap64 (((i + 1 : Nat) : Int) - 1 - 1) = (i : Int) - 1 := by rw [w64 (by omega) (by omega)]; omega
    have e2 : l.reverse.take (l.length - (i + 1)) ++ [rd l (((i + 1 : Nat) : Int) - 1)] = l.reverse.take (l.length - i) := by
      rw [show l.length - i = (l.length - (i + 1)) + 1 by omega, List.take_add_one, List.getElem?_reverse (by omega)]
      have e3 : l.length - 1 - (l.length - (i + 1)) = i := by omega
      rw [e3]
      simp [rd, List.getD, hlt]
    refine Ev.step (fun k => ?_) (ih (by omega))
    simp only [stickfullaw17_SpreadTurned.l0]
    rw [if_pos c1, if_pos c1, if_pos c2, if_pos c3, e1, e2]

theorem SpreadTurned : stickfullaw17_SpreadTurned.Pure := by
  intro l a _ _ _ _
  refine Ev.rounds (r := true) ?_
  by_cases hl : (l.length : Int) > 200
  · refine Ev.congr (fun k => ?_) head_ev2
    unfold stickfullaw17_SpreadTurned.f
    rw [if_pos hl]
  · have hfin : Ev (fun k => stickfullaw17_SpreadTurned.l0 k l a l.reverse (-1)) true := by
      by_cases hz : (ans l a).2 = 0
      · obtain ⟨ha, h, hr, hans⟩ := ans_ok hz
        have hz' : (ans l.reverse a).2 = 0 := by rw [ans_reverse]; exact hz
        obtain ⟨_, _, _, hans'⟩ := ans_ok hz'
        refine Ev.step (f := fun k => stickfullaw17_SpreadTurned.j1 k l a (placed l a) (placed l.reverse a) false) (fun k => ?_) (Ev.step (fun k => ?_) (turned_l1 (by omega) ha h hr l.length 0 (by omega)))
        · simp only [stickfullaw17_SpreadTurned.l0]
          rw [if_neg (by omega), around_ans (by omega), around_ans (by rw [List.length_reverse]; omega), hans, hans']
          simp only [Option.bind_some]
          rw [if_pos trivial, if_pos (by rw [placed_length, placed_length, List.length_reverse]), if_pos trivial, placed_length]
          simp
        · simp only [stickfullaw17_SpreadTurned.j1]
          rw [if_neg (by decide)]
          rfl
      · have hz' : (ans l.reverse a).2 ≠ 0 := by rw [ans_reverse]; exact hz
        refine Ev.step (f := fun k => stickfullaw17_SpreadTurned.j1 k l a [] [] false) (fun k => ?_) (Ev.step (f := fun k => stickfullaw17_SpreadTurned.l1 k l a [] [] 0) (fun k => ?_) (Ev.step (fun k => ?_) head_ev2))
        · simp only [stickfullaw17_SpreadTurned.l0]
          rw [if_neg (by omega), around_ans (by omega), around_ans (by rw [List.length_reverse]; omega)]
          simp only [Option.bind_some]
          rw [if_pos (ans_reverse l a).symm, ans_bad hz, ans_bad hz', if_pos rfl, if_neg hz]
        · simp only [stickfullaw17_SpreadTurned.j1]
          rw [if_neg (by decide)]
        · simp only [stickfullaw17_SpreadTurned.l1]
          rw [if_neg (by simp)]
    have := turned_l0 (l := l) (a := a) (by omega) true hfin l.length (Nat.le_refl _)
    rw [Nat.sub_self, List.take_zero] at this
    refine Ev.congr (fun k => ?_) this
    unfold stickfullaw17_SpreadTurned.f
    rw [if_neg hl, w64 (by omega) (by omega)]
end Go.Proofs.Ytjinmcgcbbbbhaa.Pure
