/- What must fit of a line ends no later than what goes of it, and that no later than all of it: the plain law. No condition of its own. -/
import Derived.Test.YtkegnlidlabjeaaPureRf
import Derived.Test.YtkegnlidlabjeaaSayTrimBounds
namespace Go.Proofs.Ytkegnlidlabjeaa.Pure
set_option linter.unusedVariables false
set_option linter.unusedSimpArgs false
open Go.RowKit Go.Proofs.YtkegnlidlabjeaaW.PrintWords Go.Proofs.YtkegnlidlabjeaaW.PrintLast Go.Proofs.YtkegnlidlabjeaaW.PrintMore Go.Proofs.Ytkegnlidlabjeaa.Hand Go.Proofs.Ytkegnlidlabjeaa.HTrim
def up (c : S35) : Prop := 0 ≤ c.f3 ∧ c.f3 ≤ 1099511627776
theorem nxt_up {c : S35} (hc : up c) {x y B : Int} (hxy : x ≤ y) (hx : -B ≤ x) (hy : y ≤ B) (hB : B + 1099511627776 ≤ 4611686018427387904) (hB0 : 0 ≤ B) :
    ∃ a b, nxt c x = some a ∧ nxt c y = some b ∧ a ≤ b ∧ x ≤ a ∧ y ≤ b ∧ b ≤ B + 1099511627776 := by
  obtain ⟨h1, h2⟩ := hc
  unfold nxt
  by_cases h4 : c.f0 = 4
  · rw [if_pos h4, if_pos h4]
    by_cases h0 : c.f3 = 0
    · rw [if_pos h0, if_pos h0]
      exact ⟨x, y, rfl, rfl, hxy, by omega, by omega, by omega⟩
    · rw [if_neg h0, if_neg h0]
      have hd : 0 < c.f3 := by omega
      have e1 := Int.emod_nonneg x (show c.f3 ≠ 0 by omega)
      have e2 := Int.emod_lt_of_pos x hd
      have e3 := Int.emod_nonneg y (show c.f3 ≠ 0 by omega)
      have e4 := Int.emod_lt_of_pos y hd
      have e5 := Int.mul_ediv_add_emod x c.f3
      have e6 := Int.mul_ediv_add_emod y c.f3
      have e7 : c.f3 * (x / c.f3) ≤ c.f3 * (y / c.f3) := Int.mul_le_mul_of_nonneg_left (Int.ediv_le_ediv hd hxy) (by omega)
      unfold fitO
      rw [if_pos (by unfold fits; omega), if_pos (by unfold fits; omega)]
      exact ⟨_, _, rfl, rfl, by omega, by omega, by omega, by omega⟩
  · rw [if_neg h4, if_neg h4]
    unfold fitO
    rw [if_pos (by unfold fits; omega), if_pos (by unfold fits; omega)]
    exact ⟨_, _, rfl, rfl, by omega, by omega, by omega, by omega⟩
theorem nxtR_up {c : S35} (hc : up c) {r r' x y B : Int} (hr : r' = 1 → r = 1) (hxy : x ≤ y) (hx : -B ≤ x) (hy : y ≤ B) (hB : B + 1099511627776 ≤ 4611686018427387904) (hB0 : 0 ≤ B) :
    ∃ a b, nxtR r c x = some a ∧ nxtR r' c y = some b ∧ a ≤ b ∧ x ≤ a ∧ b ≤ B + 1099511627776 := by
  obtain ⟨a, b, g1, g2, g3, g4, g5, g6⟩ := nxt_up hc hxy hx hy hB hB0
  unfold nxtR
  by_cases h : r = 1
  · rw [if_pos h]
    by_cases h' : r' = 1
    · rw [if_pos h']; exact ⟨x, y, rfl, rfl, hxy, by omega, by omega⟩
    · rw [if_neg h']; exact ⟨x, b, rfl, g2, by omega, by omega, g6⟩
  · rw [if_neg h, if_neg (fun h' => h (hr h'))]
    exact ⟨a, b, g1, g2, g3, g4, g6⟩
theorem walk_up (rs rs' : List Int) (hr : ∀ i, roleAt rs' i = 1 → roleAt rs i = 1) : ∀ (l : List S35) (i : Nat) (x y B : Int), (∀ c ∈ l, up c) → x ≤ y → -B ≤ x → y ≤ B → 0 ≤ B → B + l.length * 1099511627776 ≤ 4611686018427387904 →
    ∃ ys zs, walk rs l i x = some ys ∧ walk rs' l i y = some zs ∧ x ≤ lastD x ys ∧ lastD x ys ≤ lastD y zs
  | [], i, x, y, B, _, h, _, _, _, _ => ⟨[], [], rfl, rfl, Int.le_refl _, h⟩
  | c :: l, i, x, y, B, hl, h1, h2, h3, h4, h5 => by
    rw [List.length_cons] at h5
    obtain ⟨a, b, g1, g2, g3, g4, g5⟩ := nxtR_up (hl c (List.mem_cons_self ..)) (hr i) h1 h2 h3 (by omega) h4
    obtain ⟨ys, zs, k1, k2, k3, k4⟩ := walk_up rs rs' hr l (i + 1) a b (B + 1099511627776) (fun d hd => hl d (List.mem_cons_of_mem _ hd)) g3 (by omega) g5 (by omega) (by omega)
    refine ⟨a :: ys, b :: zs, by simp only [walk]; rw [g1, Option.bind_some, k1]; rfl, by simp only [walk]; rw [g2, Option.bind_some, k2]; rfl, ?_, k4⟩
    simp only [lastD]
    omega
theorem no_bad {l : List S35} (hl : ∀ c ∈ l, up c) : l.any badTab = false := by
  rw [List.any_eq_false]
  intro c hc
  have := (hl c hc).1
  unfold badTab
  simp
  intro _
  omega
theorem end_of {rs : List Int} {l : List S35} {x : Int} {ys : List Int} (hw : walk rs l 0 x = some ys) (hf : fits x) (hb : l.any badTab = false) : endR rs l x = (lastD x ys, 0) := by
  unfold endR
  rw [pensR_some hw hf hb, if_pos rfl]
  rfl
theorem walk_stay (rs : List Int) {x : Int} (hf : fits x) : ∀ (l : List S35) (i : Nat), (∀ j, (h : j < l.length) → roleAt rs (i + j) = 1 ∨ (l[j].f3 = 0 ∧ l[j].f0 ≠ 4)) → ∃ ys, walk rs l i x = some ys ∧ lastD x ys = x
  | [], i, _ => ⟨[], rfl, rfl⟩
  | c :: l, i, h => by
    obtain ⟨ys, g1, g2⟩ := walk_stay rs hf l (i + 1) (fun j hj => by
      have := h (j + 1) (by simp; omega)
      rw [show i + (j + 1) = i + 1 + j by omega] at this
      simpa using this)
    have h0 := h 0 (by simp)
    rw [Nat.add_zero] at h0
    have e : nxtR (roleAt rs i) c x = some x := by
      unfold nxtR
      by_cases h1 : roleAt rs i = 1
      · rw [if_pos h1]
      · have h2 : c.f3 = 0 ∧ c.f0 ≠ 4 := by simpa [h1] using h0
        rw [if_neg h1]
        unfold nxt fitO
        rw [if_neg h2.2, h2.1, Int.add_zero, if_pos hf]
    exact ⟨x :: ys, by simp only [walk]; rw [e, Option.bind_some, g1]; rfl, g2⟩
def edgedR (l : List S35) : Nat → Nat → Bool
  | 0, _ => false
  | r + 1, i => ((rd_T35 l (i : Int)).f0 != 1 && (rd_T35 l (i : Int)).f3 != 0) || edgedR l r (i + 1)
theorem edged_l0 (l : List S35) (hlen : l.length ≤ 100000) : ∀ (r i : Nat), i + r = l.length → Ev (fun k => stickfullaw13_edged.l0 k l (i : Int)) (edgedR l r i) := by
  intro r
  induction r with
  | zero =>
    intro i hi
    refine Ev.step (f := fun _ => some false) (fun k => ?_) (Ev.now _)
    simp only [stickfullaw13_edged.l0]
    rw [if_neg (by omega)]
  | succ r ih =>
    intro i hi
    have h2 : ∀ k, stickfullaw13_edged.l0 (k + 1) l (i : Int) = if (rd_T35 l (i : Int)).f0 = 1 then stickfullaw13_edged.l0 k l ((i + 1 : Nat) : Int) else (if (rd_T35 l (i : Int)).f3 = 0 then stickfullaw13_edged.l0 k l ((i + 1 : Nat) : Int) else some true) := by
      intro k
      simp only [stickfullaw13_edged.l0]
      rw [if_pos (by omega), if_pos (by omega), w1 (by omega)]
    refine Ev.step h2 ?_
    simp only [edgedR]
    by_cases c1 : (rd_T35 l (i : Int)).f0 = 1
    · rw [show ((rd_T35 l (i : Int)).f0 != 1) = false by simpa using c1, Bool.false_and, Bool.false_or]
      exact Ev.congr (fun k => if_pos c1) (ih (i + 1) (by omega))
    · rw [show ((rd_T35 l (i : Int)).f0 != 1) = true by simpa using c1, Bool.true_and]
      refine Ev.congr (fun k => if_neg c1) ?_
      by_cases c2 : (rd_T35 l (i : Int)).f3 = 0
      · rw [show ((rd_T35 l (i : Int)).f3 != 0) = false by simpa using c2, Bool.false_or]
        exact Ev.congr (fun k => if_pos c2) (ih (i + 1) (by omega))
      · rw [show ((rd_T35 l (i : Int)).f3 != 0) = true by simpa using c2, Bool.true_or]
        exact Ev.congr (fun k => if_neg c2) (Ev.now _)
theorem edgedR_at {l : List S35} : ∀ (r i : Nat), edgedR l r i = false → ∀ j, i ≤ j → j < i + r → (rd_T35 l (j : Int)).f0 = 1 ∨ (rd_T35 l (j : Int)).f3 = 0
  | 0, i, _, j, h1, h2 => by omega
  | r + 1, i, h, j, h1, h2 => by
    simp only [edgedR, Bool.or_eq_false_iff] at h
    by_cases hj : j = i
    · subst hj
      have := h.1
      by_cases c : (rd_T35 l (j : Int)).f0 = 1
      · exact .inl c
      · right
        simpa [c] using this
    · exact edgedR_at r (i + 1) h.2 j (by omega) (by omega)
theorem blkR_at {l : List S35} : ∀ (r i : Nat), blkR l r i = true → ∀ j, i ≤ j → j < i + r → blkAt l j = true
  | 0, i, _, j, h1, h2 => by omega
  | r + 1, i, h, j, h1, h2 => by
    simp only [blkR, Bool.and_eq_true] at h
    by_cases hj : j = i
    · subst hj; exact h.1
    · exact blkR_at r (i + 1) h.2 j (by omega) (by omega)
theorem roleAt_map {rs : List Int} {i : Nat} (hi : i < rs.length) : roleAt (rs.map unH) i = unH (roleAt rs i) := by
  unfold roleAt
  rw [if_pos (by rw [List.length_map]; omega), if_pos (by omega), rd_int _ (by rw [List.length_map]; exact hi), rd_int _ hi, List.getElem_map]
theorem bounds_l0 {l : List S35} {x : Int} (hlen : l.length ≤ 150) (hok : ∀ d ∈ l, okC d) (h1 : -1099511627776 ≤ x) (h2 : x ≤ 1099511627776) :
    ∀ (r i : Nat), i + r = l.length → (∀ j, j < i → up (rd_T35 l (j : Int))) → Ev (fun k => stickfullaw13_TrimBounds.l0 k l x (i : Int)) true := by
  intro r
  induction r with
  | zero =>
    intro i hi hp
    have hup : ∀ c ∈ l, up c := fun c hc => by
      obtain ⟨j, hj, rfl⟩ := List.getElem_of_mem hc
      have := hp j (by omega)
      rw [rd_nat l hj] at this
      exact this
    have hz := rolesZ_len true l
    have hin : in64 x := by unfold in64; omega
    have hf : fits x := by unfold fits; omega
    have hb := no_bad hup
    have r1 : ∀ i, roleAt (rolesZ true l) i = 1 → roleAt ((rolesZ true l).map unH) i = 1 := fun i h => by
      by_cases hi : i < (rolesZ true l).length
      · rw [roleAt_map hi, h]; rfl
      · exfalso
        unfold roleAt at h
        rw [if_neg (by omega)] at h
        exact absurd h (by decide)
    have r2 : ∀ i, roleAt [] i = 1 → roleAt (rolesZ true l) i = 1 := fun i h => by
      exfalso
      unfold roleAt at h
      rw [if_neg (by simp only [List.length_nil]; omega)] at h
      exact absurd h (by decide)
    obtain ⟨y1, y2, a1, a2, a3, a4⟩ := walk_up _ _ r1 l 0 x x 1099511627776 hup (Int.le_refl _) (by omega) (by omega) (by omega) (by omega)
    obtain ⟨y3, y4, b1, b2, b3, b4⟩ := walk_up _ _ r2 l 0 x x 1099511627776 hup (Int.le_refl _) (by omega) (by omega) (by omega) (by omega)
    have e32 : y3 = y2 := by rw [a2] at b1; exact (Option.some.inj b1).symm
    subst e32
    refine Ev.step (f := fun k => (trim_Fits.f l x).bind fun bt402 => ((trim_Goes.f l x).bind fun bt404 => ((tabs_End.f l ([] : List Int) x).bind fun bt406 => (if bt402.2 = 0 then (if bt404.2 = 0 then (if bt406.2 = 0 then (if x ≤ bt402.1 then (if bt402.1 ≤ bt404.1 then (if bt404.1 ≤ bt406.1 then ((trim_Blank.f k l).bind fun t408 => (if t408 = true then ((stickfullaw13_edged.f k l).bind fun t409 => (if t409 = true then ((stickfullaw13_head.f k).bind fun t410 => (some t410)) else (if bt402.1 = x then ((stickfullaw13_head.f k).bind fun t411 => (some t411)) else (some false)))) else ((stickfullaw13_head.f k).bind fun t412 => (some t412)))) else (some false)) else (some false)) else (some false)) else (some false)) else (some false)) else (some false))))) (fun k => ?_) ?_
    · simp only [stickfullaw13_TrimBounds.l0]
      rw [if_neg (by omega)]
    · rw [fits_eq (by omega) hok hin, goes_eq (by omega) hok hin, end_eq (by omega) hok hin, end_of a1 hf hb, end_of a2 hf hb, end_of b2 hf hb]
      refine Ev.bind (a := (lastD x y1, 0)) (Ev.now _) (Ev.bind (a := (lastD x y3, 0)) (Ev.now _) (Ev.bind (a := (lastD x y4, 0)) (Ev.now _) ?_))
      refine Ev.congr (fun k => (if_pos rfl).trans ((if_pos rfl).trans ((if_pos rfl).trans ((if_pos a3).trans ((if_pos a4).trans (if_pos b4)))))) ?_
      refine Ev.bind (tblank_ev l (by omega)) ?_
      by_cases hbl : blkR l l.length 0 = true
      · refine Ev.congr (fun k => if_pos hbl) ?_
        refine Ev.bind (edged_l0 l (by omega) l.length 0 (by omega)) ?_
        by_cases hed : edgedR l l.length 0 = true
        · exact Ev.congr (fun k => if_pos hed) head_ev2
        · refine Ev.congr (fun k => if_neg hed) ?_
          have hst : lastD x y1 = x := by
            obtain ⟨ys, g1, g2⟩ := walk_stay ((rolesZ true l).map unH) hf l 0 (fun j hj => by
              rw [Nat.zero_add, roleAt_map (by omega)]
              have k1 := blkR_at l.length 0 hbl j (by omega) (by omega)
              have k2 := edgedR_at l.length 0 (by simpa using hed) j (by omega) (by omega)
              unfold blkAt at k1
              rw [rd_nat l hj] at k1 k2
              have er : roleAt (rolesZ true l) j = rd (rolesZ true l) (j : Int) := by unfold roleAt; rw [if_pos (by omega)]
              rw [er]
              by_cases c : rd (rolesZ true l) (j : Int) = 1
              · left; rw [c]; rfl
              · right
                have he : edgeB l[j] = true := by simpa [c] using k1
                have h2 : l[j].f0 = 7 ∨ l[j].f0 = 8 ∨ l[j].f0 = 5 := by unfold edgeB at he; simpa using he
                omega)
            rw [a1] at g1
            rw [Option.some.inj g1]
            exact g2
          exact Ev.congr (fun k => if_pos hst) head_ev2
      · exact Ev.congr (fun k => if_neg hbl) head_ev2
  | succ r ih =>
    intro i hi hp
    by_cases c1 : (rd_T35 l (i : Int)).f3 < 0
    · refine Ev.step (fun k => ?_) head_ev2
      simp only [stickfullaw13_TrimBounds.l0]
      rw [if_pos (by omega), if_pos (by omega), if_pos c1]
    · by_cases c2 : (rd_T35 l (i : Int)).f3 > 1099511627776
      · refine Ev.step (fun k => ?_) head_ev2
        simp only [stickfullaw13_TrimBounds.l0]
        rw [if_pos (by omega), if_pos (by omega), if_neg c1, if_pos c2]
      · refine Ev.step (fun k => ?_) (ih (i + 1) (by omega) (fun j hj => by
          by_cases hji : j = i
          · subst hji; unfold up; omega
          · exact hp j (by omega)))
        simp only [stickfullaw13_TrimBounds.l0]
        rw [if_pos (by omega), if_pos (by omega), if_neg c1, if_neg c2, w1 (by omega)]
theorem TrimBounds : stickfullaw13_TrimBounds.Pure := by
  intro l x hl hx
  refine Ev.rounds (r := true) ?_
  show Ev (fun k => stickfullaw13_TrimBounds.f k l x) true
  have hok : ∀ d ∈ l, okC d := fun d hd => okC_of (hl.2.2 d hd)
  have htrue : Ev (fun k => stickfullaw13_TrimBounds.j0 k l x true) true := by
    refine Ev.step (fun k => ?_) head_ev2
    simp only [stickfullaw13_TrimBounds.j0]
    rw [if_pos trivial]
  unfold stickfullaw13_TrimBounds.f
  by_cases h1 : (l.length : Int) > 150
  · exact Ev.congr (fun k => if_pos h1) htrue
  · by_cases h2 : x > 1099511627776
    · exact Ev.congr (fun k => (if_neg h1).trans (if_pos h2)) htrue
    · refine Ev.congr (fun k => (if_neg h1).trans (if_neg h2)) ?_
      by_cases h3 : x < -1099511627776
      · rw [decide_eq_true h3]; exact htrue
      · rw [decide_eq_false h3]
        refine Ev.step (fun k => ?_) (bounds_l0 (l := l) (x := x) (by omega) hok (by omega) (by omega) l.length 0 (by omega) (fun j hj => by omega))
        simp only [stickfullaw13_TrimBounds.j0]
        rw [if_neg (by decide)]
        rfl
end Go.Proofs.Ytkegnlidlabjeaa.Pure
