/- SpreadMore: at most 200 pieces of any numbers, in a width of at most half a limit: with two units more for each, and one piece alone; for every slice within the reading's reach. -/
import Derived.Test.YtjinmcgcbbbbhaaHSpreadx6
import Derived.Test.YtjinmcgcbbbbhaaPureSp
namespace Go.Proofs.Ytjinmcgcbbbbhaa.Pure
open Go.RowKit Go.Proofs.Ytjinmcgcbbbbhaa.HSpread Go.Proofs.YtjinmcgcbbbbhaaW.PrintWords Go.Proofs.YtjinmcgcbbbbhaaW.PrintLast

theorem share_more {r : Int} {n i : Nat} (hn : 0 < n) : share (r + 2 * (n : Int)) n i = share r n i + (2 * (i : Int) + 1) := by
  unfold share
  rw [show (r + 2 * (n : Int)) * (2 * (i : Int) + 1) = r * (2 * (i : Int) + 1) + (2 * (i : Int) + 1) * (2 * (n : Int)) by rw [Int.add_mul, Int.mul_comm (2 * (n : Int))], Int.add_mul_ediv_right _ _ (by omega)]

theorem more_end {a one : Int} (ha : okLen a) (x9 : List Int) (i : Int) (l : List Int) (hi : ¬ i < (l.length : Int)) : Ev (fun k => stickfullaw17_SpreadMore.l0 k a one l x9 i) true := by
  have ha1 := ha.1
  have ha2 := ha.2
  by_cases hz : (ans [one] a).2 = 0
  · obtain ⟨_, h, hr, hans⟩ := ans_ok hz
    have ho := h one (by simp)
    have ho1 := ho.1
    have ho2 := ho.2
    have hr' : 0 ≤ a - one := by simpa using hr
    have hp : placed [one] a = [(a - one) / 2] := by simp [placed, ps]
    refine Ev.step (f := fun k => (stickfullaw17_head.f k).bind fun t => some t) (fun k => ?_) head_ev2
    simp only [stickfullaw17_SpreadMore.l0]
    rw [if_neg hi, around_ans (by simp), hans, hp]
    simp only [Option.bind_some, List.length_singleton]
    have e0 : rd [(a - one) / 2] 0 = (a - one) / 2 := rfl
    have e1 : wrap64 (2 * ((a - one) / 2)) = 2 * ((a - one) / 2) := w64 (by omega) (by omega)
    have e2 : wrap64 (2 * ((a - one) / 2) + one) = 2 * ((a - one) / 2) + one := w64 (by omega) (by omega)
    have e3 : wrap64 (a - 1) = a - 1 := w64 (by omega) (by omega)
    rw [if_pos trivial, if_pos (by decide), if_pos (by decide), e0, e1, e2, e3]
    clear e0 e1 e2 e3
    by_cases hc : 2 * ((a - one) / 2) + one = a
    · rw [if_pos hc]
    · rw [if_neg hc, if_pos (by omega)]
  · refine Ev.step (f := fun k => (stickfullaw17_head.f k).bind fun t => some t) (fun k => ?_) head_ev2
    simp only [stickfullaw17_SpreadMore.l0]
    rw [if_neg hi, around_ans (by simp)]
    simp only [Option.bind_some]
    rw [if_neg hz]

theorem more_l0 {l : List Int} {a one : Int} (hl : l.length ≤ 200) (ha : okLen a) (h : ∀ x ∈ l, okLen x) (hr : 0 ≤ a - l.sum) : ∀ (d i : Nat), i + d = l.length →
    Ev (fun k => stickfullaw17_SpreadMore.l0 k a one (placed l a) (placed l (a + 2 * (l.length : Int))) (i : Int)) true := by
  intro d
  have hs := ps_bounds h l.length (Nat.le_refl _)
  rw [sum_eq] at hs
  have ha1 := ha.1
  have ha2 := ha.2
  induction d with
  | zero =>
    intro i hi
    exact more_end ha _ _ _ (by rw [placed_length]; omega)
  | succ d ih =>
    intro i hi
    have hlt : i < l.length := by omega
    have c1 : (i : Int) < ((placed l a).length : Int) := by rw [placed_length]; omega
    have c2 : (i : Int) < ((placed l (a + 2 * (l.length : Int))).length : Int) := by rw [placed_length]; omega
    have c3 : 0 ≤ (i : Int) := by omega
    have b1 := share_bounds hr hlt
    have hp := ps_bounds h i (by omega)
    have hb : rd (placed l (a + 2 * (l.length : Int))) i = rd (placed l a) i + 2 * (i : Int) + 1 := by
      rw [rd_placed' hlt, rd_placed' hlt, show a + 2 * (l.length : Int) - l.sum = (a - l.sum) + 2 * (l.length : Int) by omega, share_more (by omega)]
      omega
    have ea := rd_placed' (a := a) hlt
    have e1 : wrap64 (2 * (i : Int)) = 2 * (i : Int) := w64 (by omega) (by omega)
    have e2 : wrap64 (rd (placed l a) i + 2 * (i : Int)) = rd (placed l a) i + 2 * (i : Int) := w64 (by omega) (by omega)
    have e3 : wrap64 (rd (placed l a) i + 2 * (i : Int) + 1) = rd (placed l a) i + 2 * (i : Int) + 1 := w64 (by omega) (by omega)
    have e4 : wrap64 ((i : Int) + 1) = ((i + 1 : Nat) : Int) := by rw [w64 (by omega) (by omega)]; rfl
    refine Ev.step (fun k => ?_) (ih (i + 1) (by omega))
    simp only [stickfullaw17_SpreadMore.l0]
    rw [if_pos c1, if_pos c3, if_pos c2, e1, e2, e3, e4, if_pos hb]

theorem SpreadMore : stickfullaw17_SpreadMore.Pure := by
  intro l a one _ _ _ hwa _
  refine Ev.rounds (r := true) ?_
  have fin : ∀ x, Ev (fun k => stickfullaw17_SpreadMore.j0 k l a x true) true := fun x => Ev.step (fun k => by simp only [stickfullaw17_SpreadMore.j0]; rw [if_pos trivial]) head_ev2
  by_cases hl : (l.length : Int) > 200
  · refine Ev.congr (fun k => ?_) (fin one)
    unfold stickfullaw17_SpreadMore.f
    rw [if_pos hl]
  · by_cases hw : a > 536870912
    · refine Ev.congr (fun k => ?_) (fin one)
      unfold stickfullaw17_SpreadMore.f
      rw [if_neg hl, decide_eq_true hw]
    · refine Ev.congr (f := fun k => stickfullaw17_SpreadMore.j0 k l a one false) (fun k => ?_) ?_
      · unfold stickfullaw17_SpreadMore.f
        rw [if_neg hl, decide_eq_false hw]
      · by_cases hz : (ans l a).2 = 0
        · obtain ⟨ha, h, hr, hans⟩ := ans_ok hz
          have ha1 := ha.1
          have ha2 := ha.2
          have hans' : ans l (a + 2 * (l.length : Int)) = (placed l (a + 2 * (l.length : Int)), 0) := by
            unfold ans
            rw [if_pos ⟨by unfold okLen; omega, h⟩, if_neg (by omega)]
          refine Ev.step (f := fun k => stickfullaw17_SpreadMore.j1 k a one (placed l a) 0 (placed l (a + 2 * (l.length : Int))) false) (fun k => ?_) (Ev.step (fun k => ?_) (more_l0 (one := one) (by omega) ha h hr l.length 0 (by omega)))
          · simp only [stickfullaw17_SpreadMore.j0]
            have e1 : wrap64 (2 * (l.length : Int)) = 2 * (l.length : Int) := w64 (by omega) (by omega)
            have e2 : wrap64 (a + 2 * (l.length : Int)) = a + 2 * (l.length : Int) := w64 (by omega) (by omega)
            rw [if_neg (by decide), e1, e2, around_ans (by omega), around_ans (by omega), hans, hans']
            simp only [Option.bind_some]
            rw [if_pos trivial, if_pos trivial, if_pos (by rw [placed_length]), placed_length]
            simp
          · simp only [stickfullaw17_SpreadMore.j1]
            rw [if_neg (by decide)]
            rfl
        · obtain ⟨b, hb⟩ : ∃ b, ans l (wrap64 (a + wrap64 (2 * (l.length : Int)))) = b := ⟨_, rfl⟩
          refine Ev.step (f := fun k => stickfullaw17_SpreadMore.j1 k a one (ans l a).1 (ans l a).2 b.1 true) (fun k => ?_) (Ev.step (fun k => ?_) head_ev2)
          · simp only [stickfullaw17_SpreadMore.j0]
            rw [if_neg (by decide), around_ans (by omega), around_ans (by omega), hb]
            simp only [Option.bind_some]
            rw [if_neg hz]
          · simp only [stickfullaw17_SpreadMore.j1]
            rw [if_pos trivial, if_neg hz]
end Go.Proofs.Ytjinmcgcbbbbhaa.Pure
