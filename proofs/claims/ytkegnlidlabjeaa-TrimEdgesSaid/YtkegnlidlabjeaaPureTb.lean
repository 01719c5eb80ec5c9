/- Plain laws of chapter 13: what pens are, without a program in sight. No condition of its own. -/
import Derived.Test.YtkegnlidlabjeaaHTrimx8
namespace Go.Proofs.Ytkegnlidlabjeaa.Pure
open Go.RowKit Go.Proofs.YtkegnlidlabjeaaW.PrintWords Go.Proofs.YtkegnlidlabjeaaW.PrintLast Go.Proofs.YtkegnlidlabjeaaW.PrintMore Go.Proofs.Ytkegnlidlabjeaa.Hand Go.Proofs.Ytkegnlidlabjeaa.HTrim
def fits (x : Int) : Prop := -4611686018427387904 ≤ x ∧ x ≤ 4611686018427387904
instance (x : Int) : Decidable (fits x) := by unfold fits; exact inferInstance
def fitO (s : Int) : Option Int := if fits s then some s else none
/-- The pen behind a cell that may be. -/
def nxt (c : S35) (x : Int) : Option Int := if c.f0 = 4 then (if c.f3 = 0 then some x else fitO (x - x % c.f3 + c.f3)) else fitO (x + c.f3)
def nxtR (r : Int) (c : S35) (x : Int) : Option Int := if r = 1 then some x else nxt c x
/-- The pens behind cells. -/
def walk (rs : List Int) : List S35 → Nat → Int → Option (List Int)
  | [], _, _ => some []
  | c :: l, i, x => (nxtR (roleAt rs i) c x).bind fun y => (walk rs l (i + 1) y).map (y :: ·)
def pensR (rs : List Int) (l : List S35) (x : Int) : List Int × Int :=
  if l.any badTab then ([], 2) else if fits x then (match walk rs l 0 x with | some ys => (x :: ys, 0) | none => ([], 10)) else ([], 10)
def okC (c : S35) : Prop := in64 c.f3

theorem ws {x : Int} (h1 : -9223372036854775808 ≤ x) (h2 : x ≤ 9223372036854775807) : wrap64 x = x := by
  unfold wrap64
  omega
theorem wrap_in (x : Int) : in64 (wrap64 x) := by unfold in64 wrap64; omega
theorem sum_ok {l : List Int} (h : ∀ x ∈ l, in64 x) (hl : l.length ≤ 1000) : unit_Sum.f l = some (if fits l.sum then (l.sum, 0) else (0, 10)) := by
  unfold unit_Sum.f
  rw [if_pos ⟨h, by omega⟩]
  by_cases hf : fits l.sum
  · rw [if_pos hf]; exact if_pos hf
  · rw [if_neg hf]; exact if_neg hf
theorem in_of_fits {x : Int} (h : fits x) : in64 x := by unfold fits at h; unfold in64; omega
theorem tmod_cases {x d : Int} (hd : 0 < d) : (x.tmod d < 0 ∧ x % d = x.tmod d + d) ∨ (¬ x.tmod d < 0 ∧ x % d = x.tmod d) := by
  have h1 : 0 ≤ x % d := Int.emod_nonneg x (by omega)
  have h2 : x % d < d := Int.emod_lt_of_pos x hd
  rcases Int.le_total 0 x with hx | hx
  · right
    rw [Int.tmod_eq_emod_of_nonneg hx]
    exact ⟨by omega, rfl⟩
  · have e : x.tmod d = -((-x).tmod d) := by rw [Int.neg_tmod]; omega
    rw [Int.tmod_eq_emod_of_nonneg (show 0 ≤ -x by omega)] at e
    have h3 : 0 ≤ (-x) % d := Int.emod_nonneg (-x) (by omega)
    have h4 : (-x) % d < d := Int.emod_lt_of_pos (-x) hd
    have h5 : ((-x) % d + x % d) % d = 0 := by rw [← Int.add_emod]; simp [Int.add_left_neg]
    by_cases hz : (-x) % d = 0
    · right
      rw [hz] at h5 e
      rw [Int.zero_add, Int.emod_emod_of_dvd x (Int.dvd_refl d)] at h5
      omega
    · left
      have h6 : (-x) % d + x % d = d := by
        by_cases hc : (-x) % d + x % d < d
        · rw [Int.emod_eq_of_lt (by omega) hc] at h5
          omega
        · have : ((-x) % d + x % d - d) % d = 0 := by rw [Int.sub_emod_right]; exact h5
          rw [Int.emod_eq_of_lt (by omega) (by omega)] at this
          omega
      omega
theorem step_eq {c : S35} (hc : okC c) (hb : badTab c = false) {x : Int} (hx : fits x) : stepC c x = some (match nxt c x with | some y => (y, 0) | none => (0, 10)) := by
  have hx1 := in_of_fits hx
  have s1 : unit_Sum.f [x] = some (x, 0) := by
    rw [sum_ok (by simpa using hx1) (by simp)]
    simp only [List.sum_cons, List.sum_nil, Int.add_zero]
    rw [if_pos hx]
  unfold stepC tabs_Step.f nxt
  rw [s1]
  simp only [Option.bind_some]
  by_cases h4 : c.f0 = 4
  · rw [if_pos h4, if_pos h4]
    have h3 : ¬ c.f3 < 0 := by
      intro h
      unfold badTab at hb
      rw [h4, decide_eq_true h] at hb
      cases hb
    rw [decide_eq_false h3]
    simp only [tabs_Step.j0]
    rw [if_neg (by decide), if_pos h4, if_pos trivial]
    by_cases h0 : c.f3 = 0
    · rw [if_pos h0, if_pos h0]
    · rw [if_neg h0, if_neg h0]
      have hd : 0 < c.f3 := by omega
      have hi : c.f3 ≤ 9223372036854775807 := hc.2
      have hm1 : 0 ≤ x % c.f3 := Int.emod_nonneg x (by omega)
      have hm2 : x % c.f3 < c.f3 := Int.emod_lt_of_pos x hd
      have key : unit_Stop.f x c.f3 = some (if fits (x - x % c.f3 + c.f3) then (x - x % c.f3 + c.f3, 0) else (0, 10)) := by
        unfold unit_Stop.f
        rw [if_neg (by omega), if_neg h0]
        rcases tmod_cases (x := x) hd with ⟨ht, he⟩ | ⟨ht, he⟩
        · rw [if_pos ht, show wrap64 (x.tmod c.f3 + c.f3) = x % c.f3 by rw [he]; exact ws (by omega) (by omega), ws (x := -(x % c.f3)) (by omega) (by omega), sum_ok (by
            intro y hy
            simp at hy
            rcases hy with rfl | rfl | rfl
            · exact hx1
            · unfold in64; omega
            · exact hc) (by simp)]
          have es : [x, -(x % c.f3), c.f3].sum = x - x % c.f3 + c.f3 := by simp; omega
          rw [es]
          simp only [Option.bind_some]
        · rw [if_neg ht, ← he, ws (x := -(x % c.f3)) (by omega) (by omega), sum_ok (by
            intro y hy
            simp at hy
            rcases hy with rfl | rfl | rfl
            · exact hx1
            · unfold in64; omega
            · exact hc) (by simp)]
          have es : [x, -(x % c.f3), c.f3].sum = x - x % c.f3 + c.f3 := by simp; omega
          rw [es]
          simp only [Option.bind_some]
      rw [key]
      unfold fitO
      by_cases hf : fits (x - x % c.f3 + c.f3)
      · rw [if_pos hf, if_pos hf]; rfl
      · rw [if_neg hf, if_neg hf]; rfl
  · rw [if_neg h4, if_neg h4]
    simp only [tabs_Step.j0]
    rw [if_neg (by decide), if_neg h4, sum_ok (by
      intro y hy
      simp at hy
      rcases hy with rfl | rfl
      · exact hx1
      · exact hc) (by simp)]
    have es : [x, c.f3].sum = x + c.f3 := by simp
    rw [es]
    unfold fitO
    by_cases hf : fits (x + c.f3)
    · rw [if_pos hf, if_pos hf]; rfl
    · rw [if_neg hf, if_neg hf]; rfl
theorem nxt_fits {c : S35} {x y : Int} (hx : fits x) (h : nxt c x = some y) : fits y := by
  unfold nxt fitO at h
  split at h
  · split at h
    · cases h; exact hx
    · split at h
      · cases h; assumption
      · cases h
  · split at h
    · cases h; assumption
    · cases h
theorem nxtR_fits {r : Int} {c : S35} {x y : Int} (hx : fits x) (h : nxtR r c x = some y) : fits y := by
  unfold nxtR at h
  split at h
  · cases h; exact hx
  · exact nxt_fits hx h
theorem pen_eq {c : S35} (hc : okC c) (hb : badTab c = false) {r x : Int} (hx : fits x) : penOf c r x = some (match nxtR r c x with | some y => (y, 0) | none => (0, 10)) := by
  unfold penOf nxtR
  by_cases h : r = 1
  · rw [if_pos h, if_pos h]
  · rw [if_neg h, if_neg h]; exact step_eq hc hb hx
theorem lastE_cons {p : Int × Int} {ps : List (Int × Int)} (h : lastE ps = 10) : lastE (p :: ps) = 10 := by
  cases ps with
  | nil => cases h
  | cons q qs => exact h
theorem pensL_eq (rs : List Int) : ∀ (l : List S35) (i : Nat) (x : Int), (∀ c ∈ l, okC c ∧ badTab c = false) → fits x →
    ∃ ps, pensL rs l i x = some ps ∧ (match walk rs l i x with | some ys => ps = ys.map (fun y => (y, 0)) | none => lastE ps = 10)
  | [], i, x, _, _ => ⟨[], rfl, rfl⟩
  | c :: l, i, x, hl, hx => by
    obtain ⟨hc, hb⟩ := hl c (List.mem_cons_self ..)
    have hl2 : ∀ c ∈ l, okC c ∧ badTab c = false := fun d hd => hl d (List.mem_cons_of_mem _ hd)
    simp only [pensL, walk]
    rw [pen_eq hc hb hx]
    cases hn : nxtR (roleAt rs i) c x with
    | none => exact ⟨[(0, 10)], by simp, by simp [lastE]⟩
    | some y =>
      obtain ⟨ps, h1, h2⟩ := pensL_eq rs l (i + 1) y hl2 (nxtR_fits hx hn)
      refine ⟨(y, 0) :: ps, by simp [h1], ?_⟩
      simp only [Option.bind_some]
      cases hw : walk rs l (i + 1) y with
      | none => rw [hw] at h2; exact lastE_cons h2
      | some ys => rw [hw] at h2; simp only [Option.map_some]; rw [h2]; rfl
theorem pens_eq {l : List S35} {rs : List Int} {x : Int} (hlen : l.length ≤ 1000000000000) (hl : ∀ c ∈ l, okC c) (hx : in64 x) : tabs_Pens.f l rs x = some (pensR rs l x) := by
  unfold tabs_Pens.f pensR
  rw [if_pos hlen]
  by_cases hb : l.any badTab = true
  · rw [if_pos hb, if_pos hb]
  · rw [if_neg hb, if_neg hb]
    have s1 : unit_Sum.f [x] = some (if fits x then (x, 0) else (0, 10)) := by
      rw [sum_ok (by simpa using hx) (by simp)]
      simp
    rw [s1]
    by_cases hf : fits x
    · rw [if_pos hf, if_pos hf]
      simp only [Option.bind_some, if_true]
      have hl2 : ∀ c ∈ l, okC c ∧ badTab c = false := fun c hc => ⟨hl c hc, by
        cases h : badTab c with
        | false => rfl
        | true => exact absurd (List.any_eq_true.2 ⟨c, hc, h⟩) hb⟩
      obtain ⟨ps, h1, h2⟩ := pensL_eq rs l 0 x hl2 hf
      rw [h1]
      simp only [Option.bind_some]
      cases hw : walk rs l 0 x with
      | none => rw [hw] at h2; simp only at h2; rw [h2]; rfl
      | some ys =>
        rw [hw] at h2
        simp only at h2
        have hz : lastE ps = 0 := lastE_zero (fun q hq => by rw [h2] at hq; obtain ⟨y, _, rfl⟩ := List.mem_map.1 hq; rfl)
        rw [if_pos hz, h2, List.map_map]
        congr 2
        exact congrArg _ (List.map_id'' (fun _ => rfl) ys)
    · rw [if_neg hf, if_neg hf]
      simp
end Go.Proofs.Ytkegnlidlabjeaa.Pure
