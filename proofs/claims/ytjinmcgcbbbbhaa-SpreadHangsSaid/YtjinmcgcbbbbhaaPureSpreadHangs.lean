/- SpreadHangs: columns and overhangs of any lengths in any room on both sides; every input is told, none is let go. -/
import Derived.Test.YtjinmcgcbbbbhaaSaySpread
import Derived.Test.YtjinmcgcbbbbhaaPureSp
namespace Go.Proofs.Ytjinmcgcbbbbhaa.Pure
open Go.RowKit Go.Proofs.YtjinmcgcbbbbhaaW.PrintWords Go.Proofs.YtjinmcgcbbbbhaaW.PrintLast Go.Proofs.YtjinmcgcbbbbhaaW.PrintMore Go.Proofs.Ytjinmcgcbbbbhaa.Hand Go.Proofs.Ytjinmcgcbbbbhaa.HSpread

/-- What a note is longer than its base. -/
def longer (b n : Int) : Int := mx (lim n - lim b) 0
/-- What it hangs over, to the left and to the right. -/
def hangL (b n r : Int) : Int := mn (longer b n / 2) (lim r)
def hangR (b n r : Int) : Int := mn (longer b n - longer b n / 2) (lim r)
/-- The column's width. -/
def colW (b n r s : Int) : Int := mx (lim b) (lim n) - hangL b n r - hangR b n s
theorem lim_b (n : Int) : 0 ≤ lim n ∧ lim n ≤ 1073741824 := by unfold lim mx mn; repeat' split <;> omega
theorem longer_b (b n : Int) : 0 ≤ longer b n ∧ longer b n ≤ 1073741824 := by
  have h1 := lim_b n
  have h2 := lim_b b
  unfold longer mx; split <;> omega
theorem mn_b {x y c : Int} (h1 : 0 ≤ x) (h2 : 0 ≤ y) (h3 : x ≤ c) : 0 ≤ mn x y ∧ mn x y ≤ c := by unfold mn; split <;> omega
theorem hangL_b (b n r : Int) : 0 ≤ hangL b n r ∧ hangL b n r ≤ longer b n / 2 := by
  have h1 := longer_b b n
  have h2 := lim_b r
  exact mn_b (by omega) (by omega) (Int.le_refl _)
theorem hangR_b (b n r : Int) : 0 ≤ hangR b n r ∧ hangR b n r ≤ longer b n - longer b n / 2 := by
  have h1 := longer_b b n
  have h2 := lim_b r
  exact mn_b (by omega) (by omega) (Int.le_refl _)
theorem length_eq (n : Int) : spread_length.f n = some (lim n) := rfl
theorem count_eq (n : Int) : stickfulref17_count.f n = some (lim n) := by
  unfold stickfulref17_count.f lim mx mn
  (repeat' split) <;> first | rfl | (exfalso; omega) | (congr 1; omega)
theorem halves_eq {d : Int} (h0 : 0 ≤ d) (h1 : d ≤ 1073741824) : unit_Halves.f d = some (d / 2, d - d / 2) := by
  unfold unit_Halves.f
  rw [w64 (by omega) (by omega)]
theorem over_eq (b n r s : Int) : spread_Overhang.f b n r s = some (hangL b n r, hangR b n s) := by
  have h1 := lim_b n
  have h2 := lim_b b
  have hd := longer_b b n
  unfold spread_Overhang.f
  rw [length_eq, length_eq, length_eq, length_eq]
  simp only [Option.bind_some]
  rw [w64 (x := lim n - lim b) (by omega) (by omega), show mx (lim n - lim b) 0 = longer b n from rfl, halves_eq hd.1 hd.2]
  rfl
theorem refover_eq (b n r s : Int) : stickfulref17_Overhang.f b n r s = some (hangL b n r, hangR b n s) := by
  have h1 := lim_b n
  have h2 := lim_b b
  have h3 := lim_b r
  have h4 := lim_b s
  have hd := longer_b b n
  unfold stickfulref17_Overhang.f
  rw [count_eq, count_eq, count_eq, count_eq]
  simp only [Option.bind_some]
  rw [w64 (x := lim n - lim b) (by omega) (by omega)]
  by_cases hc : lim n - lim b ≤ 0
  · rw [if_pos hc]
    have e : longer b n = 0 := by unfold longer mx; split <;> omega
    have e1 : hangL b n r = 0 := by have := hangL_b b n r; omega
    have e2 : hangR b n s = 0 := by have := hangR_b b n s; omega
    rw [e1, e2]
  · rw [if_neg hc]
    have e : longer b n = lim n - lim b := by unfold longer mx; split <;> omega
    unfold hangL hangR
    rw [← e]
    clear e
    have e3 : Int.tdiv (longer b n) 2 = longer b n / 2 := Int.tdiv_eq_ediv_of_nonneg hd.1
    rw [e3]
    generalize longer b n = d at hd ⊢
    rw [w64 (x := d / 2) (by omega) (by omega), w64 (x := d - d / 2) (by omega) (by omega)]
theorem width_b (b n : Int) : longer b n ≤ mx (lim b) (lim n) ∧ mx (lim b) (lim n) ≤ 1073741824 ∧ 0 ≤ mx (lim b) (lim n) ∧ mx (lim b) (lim n) = lim b + longer b n := by
  have h1 := lim_b n
  have h2 := lim_b b
  unfold longer mx; repeat' split <;> omega
theorem sub2 {m x y d : Int} (h0 : 0 ≤ m) (h1 : m ≤ 1073741824) (h2 : 0 ≤ x ∧ x ≤ d / 2) (h3 : 0 ≤ y ∧ y ≤ d - d / 2) (h4 : 0 ≤ d ∧ d ≤ 1073741824) : wrap64 (wrap64 (m - x) - y) = m - x - y := by
  rw [w64 (x := m - x) (by omega) (by omega), w64 (by omega) (by omega)]
theorem col_eq (b n r s : Int) : spread_Column.f b n r s = some (colW b n r s, hangL b n r, hangR b n s) := by
  have hw := width_b b n
  unfold spread_Column.f
  rw [over_eq, length_eq, length_eq]
  simp only [Option.bind_some, spread_Width.f]
  have e : mx (mx (lim b) (lim n)) 0 = mx (lim b) (lim n) := by generalize mx (lim b) (lim n) = m at hw ⊢; unfold mx; split <;> omega
  rw [e, sub2 hw.2.2.1 hw.2.1 (hangL_b b n r) (hangR_b b n s) (longer_b b n)]
  rfl
theorem refcol_eq (b n r s : Int) : stickfulref17_Column.f b n r s = some (colW b n r s, hangL b n r, hangR b n s) := by
  have hw := width_b b n
  unfold stickfulref17_Column.f
  rw [refover_eq, count_eq, count_eq]
  simp only [Option.bind_some]
  rw [sub2 hw.2.2.1 hw.2.1 (hangL_b b n r) (hangR_b b n s) (longer_b b n)]
  rfl

theorem hangs_j1 (b n r s : Int) (x : Bool) (hx : x = false → okLen b ∧ okLen n) : Ev (fun k => stickfullaw17_SpreadHangs.j1 k b n (colW b n r s) (hangL b n r) (hangR b n s) x) true := by
  refine Ev.step (f := fun k => (stickfullaw17_head.f k).bind fun t => some t) (fun k => ?_) head_ev2
  simp only [stickfullaw17_SpreadHangs.j1]
  cases x with
  | true => rw [if_pos rfl]
  | false =>
    obtain ⟨hb, hn⟩ := hx rfl
    rw [if_neg (by decide), col_eq]
    simp only [Option.bind_some]
    have hL := hangL_b b n r
    have hR := hangR_b b n s
    have hd := longer_b b n
    have hw := width_b b n
    have eL : hangL b n 0 = 0 := by have h1 := longer_b b n; unfold hangL; rw [show lim 0 = 0 from rfl]; unfold mn; split <;> omega
    have eR : hangR b n (-5) = 0 := by have h1 := longer_b b n; unfold hangR; rw [show lim (-5) = 0 from rfl]; unfold mn; split <;> omega
    have eb := lim_ok hb
    have en := lim_ok hn
    have hb1 := hb.1
    have hb2 := hb.2
    have hn1 := hn.1
    have hn2 := hn.2
    have eW : colW b n 0 (-5) = mx b n := by unfold colW; rw [eL, eR, eb, en]; omega
    have eC : colW b n r s = mx b n - hangL b n r - hangR b n s := by unfold colW; rw [eb, en]
    have eD : longer b n = mx (n - b) 0 := by unfold longer; rw [eb, en]
    rw [eb, en] at hw
    have s1 : wrap64 (hangL b n r + hangR b n s) = hangL b n r + hangR b n s := w64 (by omega) (by omega)
    have s2 : wrap64 (n - b) = n - b := w64 (by omega) (by omega)
    rw [eL, eR, eW, s1, s2, eC]
    generalize hangL b n r = x at *
    generalize hangR b n s = y at *
    rw [if_pos (by omega), if_pos hL.1, if_pos hR.1, if_pos (by omega), if_pos rfl, if_pos (by rw [w64 (by omega) (by omega)]; omega)]
    clear s1 s2
    have s3 : wrap64 (mx b n - x - y + x) = mx b n - y := by rw [w64 (by omega) (by omega)]; omega
    rw [s3]
    have s4 : wrap64 (mx b n - y + y) = mx b n := by rw [w64 (by omega) (by omega)]; omega
    rw [s4, if_pos rfl]

theorem SpreadHangs : stickfullaw17_SpreadHangs.Pure := by
  intro b n x _ _ _
  obtain ⟨r, s⟩ := x
  refine Ev.rounds (r := true) ?_
  show Ev (fun k => stickfullaw17_SpreadHangs.f k b n r s) true
  have hj : ∃ z : Bool, (z = false → okLen b ∧ okLen n) ∧ ∀ k x7 x8 x9, stickfullaw17_SpreadHangs.j0 (k + 1) b n x7 x8 x9 false = stickfullaw17_SpreadHangs.j1 k b n x7 x8 x9 z := by
    by_cases hm : mn b n < 0
    · refine ⟨true, fun h => (by cases h), fun k x7 x8 x9 => ?_⟩
      simp only [stickfullaw17_SpreadHangs.j0]
      rw [if_neg (by decide), if_pos hm]
    · refine ⟨decide (mx b n > 1073741824), fun h => ?_, fun k x7 x8 x9 => ?_⟩
      · have h' := of_decide_eq_false h
        clear h
        unfold mx mn at *
        unfold okLen
        repeat' split at h' <;> split at hm <;> omega
      · simp only [stickfullaw17_SpreadHangs.j0]
        rw [if_neg (by decide), if_neg hm]
  obtain ⟨z, hz, hj⟩ := hj
  refine Ev.congr (f := fun k => stickfullaw17_SpreadHangs.j0 k b n (colW b n r s) (hangL b n r) (hangR b n s) false) (fun k => ?_) (Ev.step (fun k => (hj k _ _ _)) (hangs_j1 b n r s z hz))
  unfold stickfullaw17_SpreadHangs.f
  rw [col_eq, refcol_eq, over_eq]
  simp only [Option.bind_some, spread_Width.f]
  simp
end Go.Proofs.Ytjinmcgcbbbbhaa.Pure
