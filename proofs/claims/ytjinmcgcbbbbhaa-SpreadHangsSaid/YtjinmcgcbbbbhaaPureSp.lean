/- What spread.Around answers, told of numbers and lists; and that the document's loops come to the same, for pieces that the statements let in. -/
import Derived.Test.YtjinmcgcbbbbhaaHSpreadx
namespace Go.Proofs.Ytjinmcgcbbbbhaa.Pure
open Go.RowKit Go.Proofs.Ytjinmcgcbbbbhaa.HSpread Go.Proofs.YtjinmcgcbbbbhaaW.PrintWords Go.Proofs.YtjinmcgcbbbbhaaW.PrintLast

theorem w64 {x : Int} (h1 : -9223372036854775808 ≤ x) (h2 : x ≤ 9223372036854775807) : wrap64 x = x := by unfold wrap64; omega
theorem head_ev : Ev (fun k => stickfullaw17_head.f k) true := Ev.of stickfullaw17_head.mono (k := 100) (by kernel_rfl)
theorem head_ev2 : Ev (fun k => (stickfullaw17_head.f k).bind fun t => some t) true := Ev.bind head_ev (Ev.now true)
theorem ok_rd {l : List Int} (h : ∀ x ∈ l, okLen x) {i : Nat} (hi : i < l.length) : okLen (rd l i) := h _ (by simp [rd, List.getD, hi])
theorem ok_take {l : List Int} (h : ∀ x ∈ l, okLen x) (i : Nat) : ∀ x ∈ l.take i, okLen x := fun x hx => h x (List.mem_of_mem_take hx)
theorem sum_eq (l : List Int) : ps l l.length = l.sum := by simp [ps]
theorem rd_placed {l : List Int} {a : Int} {i : Nat} (hi : i < l.length) : rd (placed l a) i = ps l i + (a - l.sum) * (2 * (i : Int) + 1) / (2 * (l.length : Int)) := by
  simp [rd, placed, List.getD, hi]
theorem placed_length (l : List Int) (a : Int) : (placed l a).length = l.length := by simp [placed]

/-- What Around answers of pieces that may be. -/
def ans (l : List Int) (a : Int) : List Int × Int := if okLen a ∧ ∀ x ∈ l, okLen x then (if a - l.sum < 0 then ([], 6) else (placed l a, 0)) else ([], 2)
theorem around_ans {l : List Int} (hl : l.length ≤ 65536) (a : Int) : spread_Around.f l a = some (ans l a) := by
  unfold spread_Around.f ans
  by_cases h : okLen a ∧ ∀ x ∈ l, okLen x
  · rw [if_pos ⟨hl, h⟩, if_pos h]
    split <;> rfl
  · rw [if_neg (fun hc => h hc.2), if_neg h]

/-- One piece's part of the room. -/
theorem part_bounds {l : List Int} {a : Int} {i : Nat} (hl : l.length ≤ 65536) (ha : okLen a) (h : ∀ x ∈ l, okLen x) (hr : 0 ≤ a - l.sum) (hi : i < l.length) :
    0 ≤ (a - l.sum) * (2 * (i : Int) + 1) ∧ (a - l.sum) * (2 * (i : Int) + 1) ≤ 1073741824 * 131073 ∧ 0 ≤ (a - l.sum) * (2 * (i : Int) + 1) / (2 * (l.length : Int)) ∧ (a - l.sum) * (2 * (i : Int) + 1) / (2 * (l.length : Int)) ≤ a - l.sum := by
  have hs := ps_bounds h l.length (Nat.le_refl _)
  rw [sum_eq] at hs
  unfold okLen at ha
  have h1 : 0 ≤ (a - l.sum) * (2 * (i : Int) + 1) := Int.mul_nonneg hr (by omega)
  refine ⟨h1, Int.mul_le_mul (by omega) (by omega) (by omega) (by omega), Int.ediv_nonneg h1 (by omega), ?_⟩
  refine Int.ediv_le_of_le_mul (by omega) ?_
  exact Int.mul_le_mul_of_nonneg_left (by omega) hr

theorem part_eq {l : List Int} {a : Int} {i : Nat} (hl : l.length ≤ 65536) (ha : okLen a) (h : ∀ x ∈ l, okLen x) (hr : 0 ≤ a - l.sum) (hi : i < l.length) :
    wrap64 (ps l i + (wrap64 (Int.tdiv (wrap64 ((wrap64 (a - l.sum)) * (wrap64 ((wrap64 (2 * (i : Int))) + 1)))) (wrap64 (2 * (l.length : Int)))))) = ps l i + (a - l.sum) * (2 * (i : Int) + 1) / (2 * (l.length : Int)) := by
  obtain ⟨p1, p2, p3, p4⟩ := part_bounds hl ha h hr hi
  have hs := ps_bounds h i (by omega)
  have ha1 := ha.1
  have ha2 := ha.2
  have hsum := ps_bounds h l.length (Nat.le_refl _)
  rw [sum_eq] at hsum
  have e1 : wrap64 (2 * (l.length : Int)) = 2 * (l.length : Int) := w64 (by omega) (by omega)
  have e2 : wrap64 (2 * (i : Int)) = 2 * (i : Int) := w64 (by omega) (by omega)
  have e3 : wrap64 (2 * (i : Int) + 1) = 2 * (i : Int) + 1 := w64 (by omega) (by omega)
  have e4 : wrap64 (a - l.sum) = a - l.sum := w64 (by omega) (by omega)
  rw [e1, e2, e3, e4]
  clear e1 e2 e3 e4
  generalize (a - l.sum) * (2 * (i : Int) + 1) = x at p1 p2 p3 p4 ⊢
  rw [w64 (x := x) (by omega) (by omega), Int.tdiv_eq_ediv_of_nonneg p1]
  generalize x / (2 * (l.length : Int)) = y at p3 p4 ⊢
  rw [w64 (x := y) (by omega) (by omega)]
  exact w64 (by omega) (by omega)

theorem ref_l1 {l : List Int} {a : Int} (hl : l.length ≤ 65536) (ha : okLen a) (h : ∀ x ∈ l, okLen x) (hr : 0 ≤ a - l.sum) : ∀ (d i : Nat), i + d = l.length →
    Ev (fun k => stickfulref17_Around.l1 k l a l.sum (l.length : Int) ((placed l a).take i) (ps l i) (i : Int)) (placed l a, 0) := by
  intro d
  induction d with
  | zero =>
    intro i hi
    refine Ev.step (f := fun _ => some (placed l a, 0)) (fun k => ?_) (Ev.now _)
    simp only [stickfulref17_Around.l1]
    rw [if_neg (by omega), placed_all l a (by omega)]
  | succ d ih =>
    intro i hi
    have hlt : i < l.length := by omega
    have c1 : (i : Int) < (l.length : Int) := by omega
    have c2 : ¬ (wrap64 (2 * (l.length : Int)) = 0) := by rw [w64 (by omega) (by omega)]; omega
    have c3 : ((placed l a).take i).length < 17592186044416 := by rw [List.length_take]; omega
    have c4 : 0 ≤ (i : Int) := by omega
    have hs := ps_bounds h i (by omega)
    have hr1 := ok_rd h hlt
    unfold okLen at hr1
    have e9 : wrap64 (ps l i + rd l i) = ps l (i + 1) := by rw [ps_succ l i hlt]; exact w64 (by omega) (by omega)
    have e10 : wrap64 ((i : Int) + 1) = ((i + 1 : Nat) : Int) := by rw [w64 (by omega) (by omega)]; rfl
    have e8 := part_eq hl ha h hr hlt
    refine Ev.step (fun k => ?_) (ih (i + 1) (by omega))
    simp only [stickfulref17_Around.l1]
    rw [if_pos c1, if_neg c2, if_pos c3, if_pos c4, if_pos c1, e8, e9, e10, placed_take l a hlt]

theorem ref_l0 {l : List Int} {a : Int} (hl : l.length ≤ 65536) (ha : okLen a) : ∀ (d i : Nat), i + d = l.length → (∀ x ∈ l.take i, okLen x) → 0 ≤ ps l i → ps l i ≤ i * 1073741824 →
    Ev (fun k => stickfulref17_Around.l0 k l a (ps l i) (i : Int)) (ans l a) := by
  intro d
  induction d with
  | zero =>
    intro i hi hok h1 h2
    obtain rfl : i = l.length := by omega
    have hall : ∀ x ∈ l, okLen x := by rwa [List.take_length] at hok
    rw [sum_eq]
    by_cases hr : a - l.sum < 0
    · refine Ev.step (f := fun _ => some (([] : List Int), (6 : Int))) (fun k => ?_) (by rw [ans, if_pos ⟨ha, hall⟩, if_pos hr]; exact Ev.now _)
      simp only [stickfulref17_Around.l0]
      rw [if_neg (by omega), if_pos (by omega)]
    · rw [ans, if_pos ⟨ha, hall⟩, if_neg hr]
      refine Ev.step (fun k => ?_) (ref_l1 hl ha hall (by omega) l.length 0 (by omega))
      simp only [stickfulref17_Around.l0]
      rw [if_neg (by omega), if_neg (by omega)]
      rfl
  | succ d ih =>
    intro i hi hok h1 h2
    have hlt : i < l.length := by omega
    by_cases hx : okLen (rd l i)
    · have hx1 := hx.1
      have hx2 := hx.2
      have hp := ps_succ l i hlt
      refine Ev.step (fun k => ?_) (ih (i + 1) (by omega) ((all_ok_take hlt).2 ⟨hok, hx⟩) (by omega) (by omega))
      simp only [stickfulref17_Around.l0]
      have e9 : wrap64 (ps l i + rd l i) = ps l (i + 1) := by rw [hp]; exact w64 (by omega) (by omega)
      have e10 : wrap64 ((i : Int) + 1) = ((i + 1 : Nat) : Int) := by rw [w64 (by omega) (by omega)]; rfl
      have em : stickfulref17_may.f (rd l i) = some true := by
        unfold stickfulref17_may.f
        rw [if_pos hx1, decide_eq_true hx2]
      rw [if_pos (by omega), if_pos (by omega), em]
      simp only [Option.bind_some, if_true]
      rw [e9, e10]
    · have hans : ans l a = ([], 2) := by
        rw [ans, if_neg]
        rintro ⟨_, hc⟩
        exact hx (ok_rd hc hlt)
      rw [hans]
      refine Ev.step (f := fun _ => some (([] : List Int), (2 : Int))) (fun k => ?_) (Ev.now _)
      simp only [stickfulref17_Around.l0]
      have em : stickfulref17_may.f (rd l i) = some false := by
        unfold stickfulref17_may.f
        unfold okLen at hx
        split
        · rw [decide_eq_false (by omega)]
        · rfl
      rw [if_pos (by omega), if_pos (by omega), em]
      simp

theorem ref_around {l : List Int} (hl : l.length ≤ 65536) (a : Int) : Ev (fun k => stickfulref17_Around.f k l a) (ans l a) := by
  by_cases ha : okLen a
  · have em : stickfulref17_may.f a = some true := by
      unfold stickfulref17_may.f
      rw [if_pos ha.1, decide_eq_true ha.2]
    refine Ev.congr (f := fun k => stickfulref17_Around.j0 k l a false) (fun k => ?_) ?_
    · unfold stickfulref17_Around.f
      rw [if_neg (by omega), em]
      rfl
    · refine Ev.step (f := fun k => stickfulref17_Around.l0 k l a 0 0) (fun k => ?_) ?_
      · simp [stickfulref17_Around.j0]
      · have := ref_l0 hl ha l.length 0 (by omega) (by simp) (by simp [ps]) (by simp [ps])
        simpa [ps] using this
  · have em : stickfulref17_may.f a = some false := by
      unfold stickfulref17_may.f
      unfold okLen at ha
      split
      · rw [decide_eq_false (by omega)]
      · rfl
    rw [ans, if_neg (fun hc => ha hc.1)]
    refine Ev.congr (f := fun k => stickfulref17_Around.j0 k l a true) (fun k => ?_) ?_
    · unfold stickfulref17_Around.f
      rw [if_neg (by omega), em]
      rfl
    · refine Ev.step (f := fun _ => some (([] : List Int), (2 : Int))) (fun k => ?_) (Ev.now _)
      simp [stickfulref17_Around.j0]

theorem same_l0 (l : List Int) (hl : l.length ≤ 9223372036854775800) : ∀ (d i : Nat), i + d = l.length → Ev (fun k => stickfulref17_Same.l0 k l l (i : Int)) true := by
  intro d
  induction d with
  | zero =>
    intro i hi
    refine Ev.step (f := fun _ => some true) (fun k => ?_) (Ev.now _)
    simp only [stickfulref17_Same.l0]
    rw [if_neg (by omega)]
  | succ d ih =>
    intro i hi
    refine Ev.step (fun k => ?_) (ih (i + 1) (by omega))
    simp only [stickfulref17_Same.l0]
    rw [if_pos (by omega), if_pos (by omega), if_pos (by omega), if_pos trivial, w64 (by omega) (by omega)]
    rfl
theorem same_ev (l : List Int) (hl : l.length ≤ 9223372036854775800) : Ev (fun k => stickfulref17_Same.f k l l) true := by
  refine Ev.congr (fun k => ?_) (same_l0 l hl l.length 0 (by omega))
  unfold stickfulref17_Same.f
  rw [if_pos rfl]
  rfl
theorem ans_length (l : List Int) (a : Int) : (ans l a).1.length ≤ l.length := by
  unfold ans
  split
  · split <;> simp [placed]
  · simp

/-- What comes ahead of piece i of the room r, of n pieces. -/
def share (r : Int) (n i : Nat) : Int := r * (2 * (i : Int) + 1) / (2 * (n : Int))
theorem rd_placed' {l : List Int} {a : Int} {i : Nat} (hi : i < l.length) : rd (placed l a) i = ps l i + share (a - l.sum) l.length i := rd_placed hi
theorem share_mono {r : Int} {n i : Nat} (hr : 0 ≤ r) (hn : 0 < n) : share r n i ≤ share r n (i + 1) := by
  unfold share
  exact Int.ediv_le_ediv (by omega) (Int.mul_le_mul_of_nonneg_left (by omega) hr)
theorem share_mirror {r : Int} {n i j : Nat} (hn : 0 < n) (hij : i + j + 1 = n) : r - share r n j = share r n i ∨ r - share r n j = share r n i + 1 := by
  unfold share
  have hD : (0 : Int) < 2 * (n : Int) := by omega
  have hD0 : (2 * (n : Int)) ≠ 0 := by omega
  have e : r * (2 * (j : Int) + 1) = -(r * (2 * (i : Int) + 1)) + r * (2 * (n : Int)) := by
    rw [show (2 * (j : Int) + 1) = 2 * (n : Int) - (2 * (i : Int) + 1) by omega, Int.mul_sub]
    omega
  rw [e, Int.add_mul_ediv_right _ _ hD0]
  generalize r * (2 * (i : Int) + 1) = x
  generalize 2 * (n : Int) = D at hD hD0
  have h1 := Int.mul_ediv_add_emod x D
  have h2 := Int.emod_nonneg x hD0
  have h3 := Int.emod_lt_of_pos x hD
  have h4 := Int.mul_ediv_add_emod (-x) D
  have h5 := Int.emod_nonneg (-x) hD0
  have h6 := Int.emod_lt_of_pos (-x) hD
  generalize x / D = q at *
  generalize x % D = s at *
  generalize (-x) / D = q' at *
  generalize (-x) % D = s' at *
  have h7 : D * (q + q') + (s + s') = 0 := by rw [Int.mul_add]; omega
  have h8 : q + q' = 0 ∨ q + q' = -1 := by
    rcases Int.lt_trichotomy (q + q') (-1) with h | h | h
    · have : D * (q + q') ≤ D * (-2) := Int.mul_le_mul_of_nonneg_left (by omega) (by omega)
      omega
    · exact .inr h
    · rcases Int.lt_trichotomy (q + q') 0 with h' | h' | h'
      · omega
      · exact .inl h'
      · have : D * 1 ≤ D * (q + q') := Int.mul_le_mul_of_nonneg_left (by omega) (by omega)
        omega
  rcases h8 with h8 | h8
  · left; omega
  · right; omega
theorem share_bounds {r : Int} {n i : Nat} (hr : 0 ≤ r) (hi : i < n) : 0 ≤ share r n i ∧ share r n i ≤ r := by
  have h1 : 0 ≤ r * (2 * (i : Int) + 1) := Int.mul_nonneg hr (by omega)
  exact ⟨Int.ediv_nonneg h1 (by omega), Int.ediv_le_of_le_mul (by omega) (Int.mul_le_mul_of_nonneg_left (by omega) hr)⟩
theorem ans_ok {l : List Int} {a : Int} (h : (ans l a).2 = 0) : okLen a ∧ (∀ x ∈ l, okLen x) ∧ 0 ≤ a - l.sum ∧ ans l a = (placed l a, 0) := by
  unfold ans at h ⊢
  by_cases hc : okLen a ∧ ∀ x ∈ l, okLen x
  · rw [if_pos hc] at h ⊢
    by_cases hr : a - l.sum < 0
    · rw [if_pos hr] at h
      cases h
    · rw [if_neg hr]
      exact ⟨hc.1, hc.2, by omega, rfl⟩
  · rw [if_neg hc] at h
    cases h
theorem ans_bad {l : List Int} {a : Int} (h : (ans l a).2 ≠ 0) : (ans l a).1 = [] := by
  unfold ans at h ⊢
  split at h
  · split at h
    · rename_i h1 h2
      rw [if_pos h1, if_pos h2]
    · exact absurd rfl h
  · rename_i h1
    rw [if_neg h1]
end Go.Proofs.Ytjinmcgcbbbbhaa.Pure
