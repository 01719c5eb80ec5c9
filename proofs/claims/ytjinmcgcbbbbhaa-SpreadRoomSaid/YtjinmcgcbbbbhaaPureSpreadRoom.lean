/- SpreadRoom: at most 200 pieces of any numbers, in any width: they stand in order, end within the width, and all room is given; for every slice within the reading's reach. -/
import Derived.Test.YtjinmcgcbbbbhaaHSpreadx4
import Derived.Test.YtjinmcgcbbbbhaaPureSp
namespace Go.Proofs.Ytjinmcgcbbbbhaa.Pure
open Go.RowKit Go.Proofs.Ytjinmcgcbbbbhaa.HSpread Go.Proofs.YtjinmcgcbbbbhaaW.PrintWords Go.Proofs.YtjinmcgcbbbbhaaW.PrintLast

/-- Where the piece ahead of number i ends. -/
def endOf (l : List Int) (a : Int) : Nat → Int
  | 0 => 0
  | i + 1 => ps l (i + 1) + share (a - l.sum) l.length i

theorem room_l0 {l : List Int} {a : Int} (hl : l.length ≤ 200) (ha : okLen a) (h : ∀ x ∈ l, okLen x) (hr : 0 ≤ a - l.sum) (hn : 0 < l.length) : ∀ (d i : Nat), i + d = l.length →
    Ev (fun k => stickfullaw17_SpreadRoom.l0 k l a (placed l a) (endOf l a i) (i : Int)) true := by
  intro d
  have hs := ps_bounds h l.length (Nat.le_refl _)
  rw [sum_eq] at hs
  have ha1 := ha.1
  have ha2 := ha.2
  induction d with
  | zero =>
    intro i hi
    obtain rfl : i = l.length := by omega
    obtain ⟨m, hm⟩ : ∃ m, l.length = m + 1 := ⟨l.length - 1, by omega⟩
    have b1 := share_bounds hr (show m < l.length by omega)
    have b0 := share_bounds hr (show 0 < l.length by omega)
    have hend : endOf l a l.length = l.sum + share (a - l.sum) l.length m := by
      have e : endOf l a (m + 1) = ps l (m + 1) + share (a - l.sum) l.length m := rfl
      rwa [← hm, sum_eq] at e
    have h0 : rd (placed l a) 0 = share (a - l.sum) l.length 0 := by
      have := rd_placed' (a := a) (show 0 < l.length by omega)
      simpa [ps] using this
    refine Ev.step (f := fun k => (stickfullaw17_head.f k).bind fun t => some t) (fun k => ?_) head_ev2
    simp only [stickfullaw17_SpreadRoom.l0]
    rw [if_neg (by rw [placed_length]; omega), if_pos (by rw [placed_length]), if_pos (by rw [placed_length]; omega), h0, hend, w64 (by omega) (by omega)]
    rcases share_mirror (r := a - l.sum) hn (show 0 + m + 1 = l.length by omega) with e | e
    · rw [if_pos (by omega)]
    · rw [if_neg (by omega), if_pos (by rw [w64 (by omega) (by omega)]; omega)]
  | succ d ih =>
    intro i hi
    have hlt : i < l.length := by omega
    have b1 := share_bounds hr hlt
    have c1 : (i : Int) < ((placed l a).length : Int) := by rw [placed_length]; omega
    have c3 : 0 ≤ (i : Int) := by omega
    have c4 : ¬ ((i : Int) ≥ (l.length : Int)) := by omega
    have c5 : (i : Int) < (l.length : Int) := by omega
    have hp := ps_bounds h i (by omega)
    have hp1 := ps_bounds h (i + 1) (by omega)
    have c2 : ¬ (rd (placed l a) i < endOf l a i) := by
      rw [rd_placed' hlt]
      cases i with
      | zero => simp only [endOf]; omega
      | succ j =>
        have := share_mono (i := j) hr hn
        simp only [endOf]
        omega
    have e1 : wrap64 (rd (placed l a) i + rd l i) = endOf l a (i + 1) := by
      have := ps_succ l i hlt
      rw [rd_placed' hlt, w64 (by omega) (by omega)]
      simp only [endOf]
      omega
    have e2 : wrap64 ((i : Int) + 1) = ((i + 1 : Nat) : Int) := by rw [w64 (by omega) (by omega)]; rfl
    refine Ev.step (fun k => ?_) (ih (i + 1) (by omega))
    simp only [stickfullaw17_SpreadRoom.l0]
    rw [if_pos c1, if_pos c3, if_neg c2, if_neg c4, if_pos c5, e1, e2]

theorem SpreadRoom : stickfullaw17_SpreadRoom.Pure := by
  intro l a _ _ _ _
  refine Ev.rounds (r := true) ?_
  by_cases hl : (l.length : Int) > 200
  · refine Ev.congr (fun k => ?_) head_ev2
    unfold stickfullaw17_SpreadRoom.f
    rw [if_pos hl]
  · have e : ∀ k, stickfullaw17_SpreadRoom.f k l a = if (ans l a).2 = 0 then (stickfullaw17_SpreadRoom.j0 k l a (ans l a).1 ((l.length : Int) == 0)) else (stickfullaw17_SpreadRoom.j0 k l a (ans l a).1 true) := fun k => by
      unfold stickfullaw17_SpreadRoom.f
      rw [if_neg hl, around_ans (by omega)]
      rfl
    by_cases hz : (ans l a).2 = 0
    · obtain ⟨ha, h, hr, hans⟩ := ans_ok hz
      by_cases hn : l.length = 0
      · refine Ev.congr (f := fun k => stickfullaw17_SpreadRoom.j0 k l a (ans l a).1 true) (fun k => ?_) (Ev.step (fun k => ?_) head_ev2)
        · rw [e k, if_pos hz, hn]
          rfl
        · simp only [stickfullaw17_SpreadRoom.j0]
          rw [if_pos trivial, if_pos (by rw [hans, placed_length]; omega)]
      · refine Ev.congr (f := fun k => stickfullaw17_SpreadRoom.j0 k l a (ans l a).1 false) (fun k => ?_) (Ev.step (fun k => ?_) (room_l0 (by omega) ha h hr (by omega) l.length 0 (by omega)))
        · rw [e k, if_pos hz, beq_eq_false_iff_ne.2 (by omega)]
        · simp only [stickfullaw17_SpreadRoom.j0]
          rw [if_neg (by decide), hans]
          rfl
    · refine Ev.congr (f := fun k => stickfullaw17_SpreadRoom.j0 k l a (ans l a).1 true) (fun k => ?_) (Ev.step (fun k => ?_) head_ev2)
      · rw [e k, if_neg hz]
      · simp only [stickfullaw17_SpreadRoom.j0]
        rw [if_pos trivial, ans_bad hz, if_pos (by simp)]
end Go.Proofs.Ytjinmcgcbbbbhaa.Pure
