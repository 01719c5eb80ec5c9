/- Plain laws of chapter 21: parts lie in other parts, and are no wider. No condition of its own. -/
import Derived.Test.YtkegnlidlabjeaaPureIA
namespace Go.Proofs.Ytkegnlidlabjeaa.PureI
set_option linter.unusedVariables false
set_option linter.unusedSimpArgs false
open Go.RowKit Go.Proofs.YtkegnlidlabjeaaW.PrintWords Go.Proofs.YtkegnlidlabjeaaW.PrintLast Go.Proofs.YtkegnlidlabjeaaW.PrintMore Go.Proofs.Ytkegnlidlabjeaa.Hand Go.Proofs.Ytkegnlidlabjeaa.HIntr
def up (c : S35) : Prop := 0 ≤ c.f3 ∧ c.f3 ≤ 2199023255552
def step (c : S35) (x : Int) : Int := if c.f0 = 4 then (if c.f3 = 0 then x else x - x % c.f3 + c.f3) else x + c.f3
theorem step_le {c : S35} (hc : up c) {x y : Int} (h : x ≤ y) : step c x ≤ step c y := by
  obtain ⟨h1, h2⟩ := hc
  unfold step
  by_cases h4 : c.f0 = 4
  · rw [if_pos h4, if_pos h4]
    by_cases h0 : c.f3 = 0
    · rw [if_pos h0, if_pos h0]; exact h
    · rw [if_neg h0, if_neg h0]
      have hd : 0 < c.f3 := by omega
      have e5 := Int.mul_ediv_add_emod x c.f3
      have e6 := Int.mul_ediv_add_emod y c.f3
      have e7 : c.f3 * (x / c.f3) ≤ c.f3 * (y / c.f3) := Int.mul_le_mul_of_nonneg_left (Int.ediv_le_ediv hd h) (by omega)
      omega
  · rw [if_neg h4, if_neg h4]; omega
theorem step_ge {c : S35} (hc : up c) (x : Int) : x ≤ step c x ∧ step c x ≤ x + c.f3 := by
  obtain ⟨h1, h2⟩ := hc
  unfold step
  by_cases h4 : c.f0 = 4
  · rw [if_pos h4]
    by_cases h0 : c.f3 = 0
    · rw [if_pos h0]; omega
    · rw [if_neg h0]
      have e1 := Int.emod_nonneg x (show c.f3 ≠ 0 by omega)
      have e2 := Int.emod_lt_of_pos x (show 0 < c.f3 by omega)
      omega
  · rw [if_neg h4]; omega
def roleF (a : Bool) (c : S35) (s : List S35) : Bool := (c.f0 == 1 && (a || s.all blankB)) || (c.f0 == 2 && s.all hangB)
theorem roleF_eq (a : Bool) (c : S35) (s : List S35) : unH (roleZ a c s) = 1 ↔ roleF a c s = true := by
  by_cases p1 : c.f0 = 1 ∧ (a = true ∨ s.all blankB = true)
  · have e : roleZ a c s = 1 := if_pos p1
    have r : roleF a c s = true := by
      unfold roleF
      rw [Bool.or_eq_true, Bool.and_eq_true, Bool.or_eq_true]
      exact .inl ⟨beq_iff_eq.2 p1.1, p1.2⟩
    rw [e]
    exact ⟨fun _ => r, fun _ => rfl⟩
  · by_cases p2 : c.f0 = 2 ∧ s.all hangB = true
    · have e : roleZ a c s = 2 := (if_neg p1).trans (if_pos p2)
      have r : roleF a c s = true := by
        unfold roleF
        rw [Bool.or_eq_true, Bool.and_eq_true (c.f0 == 2)]
        exact .inr ⟨beq_iff_eq.2 p2.1, p2.2⟩
      rw [e]
      exact ⟨fun _ => r, fun _ => rfl⟩
    · have e : roleZ a c s = 0 := (if_neg p1).trans (if_neg p2)
      rw [e]
      refine ⟨fun h => absurd h (by decide), fun h => ?_⟩
      unfold roleF at h
      simp only [Bool.or_eq_true, Bool.and_eq_true, beq_iff_eq] at h
      exact (h.elim p1 p2).elim
/-- The pen behind cells that are trimmed so that they fit. -/
def penZ : Bool → List S35 → Int → Int
  | _, [], x => x
  | a, c :: s, x => penZ (a && blankB c) s (if roleF a c s = true then x else step c x)
theorem pen_ge : ∀ (a : Bool) (l : List S35) (x : Int), (∀ c ∈ l, up c) → x ≤ penZ a l x
  | _, [], x, _ => Int.le_refl _
  | a, c :: s, x, h => by
    simp only [penZ]
    have h2 : ∀ d ∈ s, up d := fun d hd => h d (List.mem_cons_of_mem _ hd)
    have := step_ge (h c (List.mem_cons_self ..)) x
    by_cases hr : roleF a c s = true
    · rw [if_pos hr]; exact pen_ge _ s x h2
    · rw [if_neg hr]
      have := pen_ge (a && blankB c) s (step c x) h2
      omega
theorem pen_sub (suf : List S35) (hs : ∀ c ∈ suf, up c) : ∀ (s : List S35) (a a' : Bool) (x y : Int), (∀ c ∈ s, up c) → (a' = true → a = true) → x ≤ y → penZ a s x ≤ penZ a' (s ++ suf) y
  | [], a, a', x, y, _, _, h => by
    have := pen_ge a' suf y hs
    simp only [penZ, List.nil_append]
    omega
  | c :: s, a, a', x, y, hu, ha, h => by
    have h2 : ∀ d ∈ s, up d := fun d hd => hu d (List.mem_cons_of_mem _ hd)
    have hc := hu c (List.mem_cons_self ..)
    simp only [List.cons_append, penZ]
    have hr : roleF a' c (s ++ suf) = true → roleF a c s = true := by
      unfold roleF
      simp only [List.all_append, Bool.or_eq_true, Bool.and_eq_true]
      rintro (⟨h3, h4 | h4⟩ | ⟨h3, h4⟩)
      · exact .inl ⟨h3, .inl (ha h4)⟩
      · exact .inl ⟨h3, .inr h4.1⟩
      · exact .inr ⟨h3, h4.1⟩
    refine pen_sub suf hs s _ _ _ _ h2 (fun h3 => ?_) ?_
    · simp only [Bool.and_eq_true] at h3 ⊢
      exact ⟨ha h3.1, h3.2⟩
    · have g1 := step_ge hc y
      have g2 := step_ge hc x
      have g3 := step_le hc h
      by_cases q : roleF a' c (s ++ suf) = true
      · rw [if_pos q, if_pos (hr q)]; exact h
      · rw [if_neg q]
        by_cases q2 : roleF a c s = true
        · rw [if_pos q2]; omega
        · rw [if_neg q2]; exact g3
theorem pen_pre (t : List S35) : ∀ (pre : List S35) (a : Bool) (x : Int), (∀ c ∈ pre, up c) → ∃ y, x ≤ y ∧ penZ a (pre ++ t) x = penZ (a && pre.all blankB) t y
  | [], a, x, _ => ⟨x, Int.le_refl _, by simp⟩
  | c :: pre, a, x, h => by
    have hc := step_ge (h c (List.mem_cons_self ..)) x
    obtain ⟨y, h1, h2⟩ := pen_pre t pre (a && blankB c) (if roleF a c (pre ++ t) = true then x else step c x) (fun d hd => h d (List.mem_cons_of_mem _ hd))
    refine ⟨y, by split at h1 <;> omega, ?_⟩
    simp only [List.cons_append, penZ, List.all_cons]
    rw [h2, Bool.and_assoc]
theorem pen_in {pre s suf : List S35} (h : ∀ c ∈ pre ++ (s ++ suf), up c) : penZ true s 0 ≤ penZ true (pre ++ (s ++ suf)) 0 := by
  obtain ⟨y, h1, h2⟩ := pen_pre (s ++ suf) pre true 0 (fun c hc => h c (by simp [hc]))
  rw [h2]
  exact pen_sub suf (fun c hc => h c (by simp [hc])) s true _ 0 y (fun c hc => h c (by simp [hc])) (fun _ => rfl) h1
/-- Cells that are as they were, or wider. -/
def leS : List S35 → List S35 → Prop
  | [], [] => True
  | c :: l, d :: m => (c.f0 = d.f0 ∧ c.f3 ≤ d.f3 ∧ (c.f0 = 4 → c.f3 = d.f3)) ∧ leS l m
  | _, _ => False
theorem leS_blank : ∀ {l m : List S35}, leS l m → l.all blankB = m.all blankB ∧ l.all hangB = m.all hangB
  | [], [], _ => ⟨rfl, rfl⟩
  | c :: l, d :: m, h => by
    obtain ⟨h1, h2⟩ := leS_blank h.2
    have e : blankB c = blankB d ∧ hangB c = hangB d := by unfold hangB blankB edgeB; rw [h.1.1]; exact ⟨rfl, rfl⟩
    rw [List.all_cons, List.all_cons, List.all_cons, List.all_cons, h1, h2, e.1, e.2]
    exact ⟨rfl, rfl⟩
  | [], d :: m, h => h.elim
  | c :: l, [], h => h.elim
theorem pen_le : ∀ {l m : List S35} (a : Bool) (x y : Int), leS l m → (∀ c ∈ l, up c) → (∀ c ∈ m, up c) → x ≤ y → penZ a l x ≤ penZ a m y
  | [], [], _, x, y, _, _, _, h => h
  | c :: l, d :: m, a, x, y, hl, hu, hv, h => by
    obtain ⟨h1, h2⟩ := leS_blank hl.2
    have hc := hu c (List.mem_cons_self ..)
    have hd := hv d (List.mem_cons_self ..)
    have er : roleF a c l = roleF a d m := by unfold roleF; rw [hl.1.1, h1, h2]
    have eb : blankB c = blankB d := by unfold blankB edgeB; rw [hl.1.1]
    simp only [penZ]
    rw [er, eb]
    refine pen_le _ _ _ hl.2 (fun q hq => hu q (List.mem_cons_of_mem _ hq)) (fun q hq => hv q (List.mem_cons_of_mem _ hq)) ?_
    split
    · exact h
    · have g := step_le hc h
      have : step c y ≤ step d y := by
        unfold step
        rw [← hl.1.1]
        by_cases h4 : c.f0 = 4
        · rw [if_pos h4, if_pos h4, hl.1.2.2 h4]; exact Int.le_refl _
        · rw [if_neg h4, if_neg h4]; have := hl.1.2.1; omega
      omega
  | [], d :: m, _, _, _, h, _, _, _ => h.elim
  | c :: l, [], _, _, _, h, _, _, _ => h.elim
theorem walk_pen (rs : List Int) : ∀ (l : List S35) (i : Nat) (a : Bool) (x B : Int), rs.drop i = (rolesZ a l).map unH → (∀ c ∈ l, up c) → -B ≤ x → x ≤ B → 0 ≤ B → B + l.length * 2199023255552 ≤ 4611686018427387904 →
    ∃ ys, walk rs l i x = some ys ∧ lastD x ys = penZ a l x
  | [], i, a, x, B, _, _, _, _, _, _ => ⟨[], rfl, rfl⟩
  | c :: l, i, a, x, B, hr, hu, h1, h2, h3, h4 => by
    rw [List.length_cons] at h4
    have hc := hu c (List.mem_cons_self ..)
    have hg := step_ge hc x
    simp only [rolesZ, List.map_cons] at hr
    have hi : i < rs.length := by
      rcases Nat.lt_or_ge i rs.length with h | h
      · exact h
      · rw [List.drop_of_length_le h] at hr; cases hr
    rw [List.drop_eq_getElem_cons hi] at hr
    obtain ⟨hr1, hr2⟩ := List.cons.inj hr
    have ei : roleAt rs i = unH (roleZ a c l) := by
      unfold roleAt
      rw [if_pos (by omega), ← hr1]
      unfold rd
      simp [List.getD, hi]
    have key : nxtR (roleAt rs i) c x = some (if roleF a c l = true then x else step c x) := by
      unfold nxtR
      rw [ei]
      by_cases hq : roleF a c l = true
      · rw [if_pos ((roleF_eq a c l).2 hq), if_pos hq]
      · rw [if_neg (fun h => hq ((roleF_eq a c l).1 h)), if_neg hq]
        unfold nxt fitO step
        have hg2 := hg
        unfold step at hg2
        obtain ⟨c1, c2⟩ := hc
        by_cases h4' : c.f0 = 4
        · rw [if_pos h4'] at hg2 ⊢
          by_cases h0 : c.f3 = 0
          · rw [if_pos h0, if_pos h4', if_pos h0]
          · rw [if_neg h0] at hg2 ⊢
            rw [if_pos (by unfold fits; omega), if_pos h4', if_neg h0]
        · rw [if_neg h4'] at hg2 ⊢
          rw [if_pos (by unfold fits; omega), if_neg h4']
    have hy : -(B + 2199023255552) ≤ (if roleF a c l = true then x else step c x) ∧ (if roleF a c l = true then x else step c x) ≤ B + 2199023255552 := by
      obtain ⟨c1, c2⟩ := hc
      split <;> omega
    obtain ⟨ys, k1, k2⟩ := walk_pen rs l (i + 1) (a && blankB c) _ (B + 2199023255552) hr2 (fun d hd => hu d (List.mem_cons_of_mem _ hd)) hy.1 hy.2 (by omega) (by omega)
    refine ⟨_ :: ys, by simp only [walk]; rw [key, Option.bind_some, k1]; rfl, ?_⟩
    simp only [lastD, penZ]
    exact k2
theorem no_bad {l : List S35} (hl : ∀ c ∈ l, up c) : l.any badTab = false := by
  rw [List.any_eq_false]
  intro c hc
  have := (hl c hc).1
  unfold badTab
  simp
  intro _
  omega
theorem wide_pen {s : List S35} (hu : ∀ c ∈ s, up c) (hlen : s.length ≤ 1000) : wide s = (penZ true s 0, 0) := by
  obtain ⟨ys, g1, g2⟩ := walk_pen ((rolesZ true s).map unH) s 0 true 0 0 rfl hu (by omega) (by omega) (by omega) (by omega)
  unfold wide endR
  rw [pensR_some g1 (by unfold fits; omega) (no_bad hu), if_pos rfl, ← g2]
  rfl
/-- The places where a row is cut. -/
def cutT (l : List S35) (p : S35 → Bool) (t : Int) : Prop := (rd_T35 l (t - 1)).f0 = 5 ∨ p (rd_T35 l t) = true
theorem endP_cut (l : List S35) (p : S35 → Bool) : ∀ (n : Nat) (t : Int), t ≤ (l.length : Int) → (l.length : Int) - t < n → (∀ u, t ≤ u → u < endP l p n t → ¬ cutT l p u) ∧ (endP l p n t = (l.length : Int) ∨ cutT l p (endP l p n t))
  | 0, t, h, h1 => by omega
  | n + 1, t, h, h1 => by
    unfold endP
    split
    · rename_i hc
      obtain ⟨g1, g2⟩ := endP_cut l p n (t + 1) (by omega) (by omega)
      refine ⟨fun u hu1 hu2 => ?_, g2⟩
      by_cases hut : u = t
      · subst hut
        rintro (h3 | h3)
        · exact hc.2.1 h3
        · rw [hc.2.2] at h3; cases h3
      · exact g1 u (by omega) hu2
    · rename_i hc
      refine ⟨fun u hu1 hu2 => by omega, ?_⟩
      by_cases ht : t = (l.length : Int)
      · exact .inl ht
      · right
        by_cases h5 : (rd_T35 l (t - 1)).f0 = 5
        · exact .inl h5
        · right
          cases hp : p (rd_T35 l t) with
          | true => rfl
          | false => exact absurd ⟨by omega, h5, hp⟩ hc
theorem pP_part (l : List S35) (p : S35 → Bool) : ∀ (N : Nat) (i : Int), 0 ≤ i → i ≤ (l.length : Int) → (l.length : Int) - i < N →
    (∀ x ∈ pP l p i, i ≤ x.f0 ∧ x.f0 < x.f1 ∧ x.f1 ≤ (l.length : Int) ∧ ∀ t, x.f0 < t → t < x.f1 → ¬ cutT l p t) ∧ (∀ t, i ≤ t → t < (l.length : Int) → ∃ y ∈ pP l p i, y.f0 ≤ t ∧ t < y.f1 ∧ (y.f1 = (l.length : Int) ∨ cutT l p y.f1))
  | 0, i, _, h1, h2 => by omega
  | N + 1, i, h0, h1, h2 => by
    by_cases hi : i < (l.length : Int)
    · have hg := eP_ge l p (t := i + 1) (by omega)
      obtain ⟨c1, c2⟩ := endP_cut l p (l.length + 1) (i + 1) (by omega) (by omega)
      obtain ⟨g1, g2⟩ := pP_part l p N (eP l p (i + 1)) (by omega) hg.2 (by omega)
      rw [pP_cons h0 hi]
      refine ⟨fun x hx => ?_, fun t ht1 ht2 => ?_⟩
      · rcases List.mem_cons.1 hx with rfl | hx
        · exact ⟨Int.le_refl _, by simp only; omega, hg.2, fun t ht1 ht2 => c1 t (by simp only at ht1; omega) ht2⟩
        · obtain ⟨k1, k2⟩ := g1 x hx
          exact ⟨by omega, k2⟩
      · by_cases hte : t < eP l p (i + 1)
        · exact ⟨_, List.mem_cons_self .., ht1, hte, c2⟩
        · obtain ⟨y, hy1, hy2⟩ := g2 t (by omega) ht2
          exact ⟨y, List.mem_cons_of_mem _ hy1, hy2⟩
    · rw [pP_nil (by omega)]
      exact ⟨fun x hx => (by cases hx), fun t h3 h4 => by omega⟩
theorem part_in {l m : List S35} {p q : S35 → Bool} (hlen : l.length = m.length) (hpq : ∀ t, cutT l p t → cutT m q t) {x : S50} (hx : x ∈ pP m q 0) : ∃ y ∈ pP l p 0, 0 ≤ y.f0 ∧ y.f0 ≤ x.f0 ∧ x.f0 ≤ x.f1 ∧ x.f1 ≤ y.f1 ∧ y.f1 ≤ (l.length : Int) := by
  obtain ⟨x1, x2, x3, x4⟩ := (pP_part m q (m.length + 1) 0 (by omega) (by omega) (by omega)).1 x hx
  obtain ⟨y, hy, y1, y2, y3⟩ := (pP_part l p (l.length + 1) 0 (by omega) (by omega) (by omega)).2 x.f0 x1 (by omega)
  obtain ⟨z1, z2, z3, _⟩ := (pP_part l p (l.length + 1) 0 (by omega) (by omega) (by omega)).1 y hy
  refine ⟨y, hy, z1, y1, by omega, ?_, z3⟩
  by_cases hc : y.f1 < x.f1
  · exfalso
    rcases y3 with y3 | y3
    · omega
    · exact x4 y.f1 y2 hc (hpq _ y3)
  · omega
theorem seg_split (l : List S35) {a b c : Nat} (h1 : a ≤ b) (h2 : b ≤ c) : (l.take c).drop a = (l.take b).drop a ++ (l.take c).drop b := by
  have e : l.take b = (l.take c).take b := by rw [List.take_take, Nat.min_eq_left h2]
  rw [e]
  have := List.take_append_drop b (l.take c)
  conv => lhs; rw [← this]
  rw [List.drop_append]
  congr 1
  rw [List.length_take]
  by_cases hl : b ≤ (l.take c).length
  · rw [Nat.min_eq_left hl, Nat.sub_eq_zero_of_le h1, List.drop_zero]
  · rw [List.drop_of_length_le (l := l.take c) (by omega)]
    simp
theorem sub_split (l : List S35) {x y : S50} (h0 : 0 ≤ y.f0) (h1 : y.f0 ≤ x.f0) (h2 : x.f0 ≤ x.f1) (h3 : x.f1 ≤ y.f1) : subL l y = (l.take x.f0.toNat).drop y.f0.toNat ++ (subL l x ++ (l.take y.f1.toNat).drop x.f1.toNat) := by
  unfold subL
  rw [seg_split l (a := y.f0.toNat) (b := x.f0.toNat) (c := y.f1.toNat) (by omega) (by omega), seg_split l (a := x.f0.toNat) (b := x.f1.toNat) (c := y.f1.toNat) (by omega) (by omega)]
theorem sub_wide {l : List S35} (hu : ∀ c ∈ l, up c) (hlen : l.length ≤ 1000) {x y : S50} (h0 : 0 ≤ y.f0) (h1 : y.f0 ≤ x.f0) (h2 : x.f0 ≤ x.f1) (h3 : x.f1 ≤ y.f1) : (wide (subL l x)).1 ≤ (wide (subL l y)).1 := by
  have ux : ∀ c ∈ subL l x, up c := fun c hc => hu c (sub_mem hc)
  have uy : ∀ c ∈ subL l y, up c := fun c hc => hu c (sub_mem hc)
  rw [wide_pen ux (Nat.le_trans (sub_len l x) hlen), wide_pen uy (Nat.le_trans (sub_len l y) hlen)]
  rw [sub_split l h0 h1 h2 h3] at uy ⊢
  exact pen_in uy
/-- The widest of some parts, and a number. -/
def maxG (l : List S35) (xs : List S50) (n : Int) : Int := xs.foldl (fun m x => mx m (wide (subL l x)).1) n
theorem mx_le {a b c : Int} (h1 : a ≤ c) (h2 : b ≤ c) : mx a b ≤ c := by unfold mx; split <;> omega
theorem le_mx_l (a b : Int) : a ≤ mx a b := by unfold mx; split <;> omega
theorem le_mx_r (a b : Int) : b ≤ mx a b := by unfold mx; split <;> omega
theorem maxG_ge (l : List S35) : ∀ (xs : List S50) (n : Int), n ≤ maxG l xs n ∧ ∀ x ∈ xs, (wide (subL l x)).1 ≤ maxG l xs n
  | [], n => ⟨Int.le_refl _, fun x hx => (by cases hx)⟩
  | y :: xs, n => by
    obtain ⟨h1, h2⟩ := maxG_ge l xs (mx n (wide (subL l y)).1)
    have e : maxG l (y :: xs) n = maxG l xs (mx n (wide (subL l y)).1) := rfl
    rw [e]
    have g1 := le_mx_l n (wide (subL l y)).1
    have g2 := le_mx_r n (wide (subL l y)).1
    refine ⟨by omega, fun x hx => ?_⟩
    rcases List.mem_cons.1 hx with rfl | hx
    · omega
    · exact h2 x hx
theorem maxG_le (l : List S35) (B : Int) : ∀ (xs : List S50) (n : Int), n ≤ B → (∀ x ∈ xs, (wide (subL l x)).1 ≤ B) → maxG l xs n ≤ B
  | [], n, h, _ => h
  | y :: xs, n, h, hx => maxG_le l B xs _ (mx_le h (hx y (List.mem_cons_self ..))) (fun x h2 => hx x (List.mem_cons_of_mem _ h2))
theorem widG_ok (l : List S35) : ∀ (xs : List S50) (n : Int), (∀ x ∈ xs, (wide (subL l x)).2 = 0) → widG l xs n = (maxG l xs n, 0)
  | [], n, _ => rfl
  | y :: xs, n, h => by
    simp only [widG]
    rw [if_pos (h y (List.mem_cons_self ..)), widG_ok l xs _ (fun x hx => h x (List.mem_cons_of_mem _ hx))]
    rfl
theorem mm_up {l : List S35} (hu : ∀ c ∈ l, up c) (hlen : l.length ≤ 1000) : mmR l = (maxG l (pP l softB 0) 0, maxG l (pP l neverB 0) (maxG l (pP l softB 0) 0), 0) := by
  have ok : ∀ (xs : List S50), ∀ x ∈ xs, (wide (subL l x)).2 = 0 := fun xs x _ => by rw [wide_pen (fun c hc => hu c (sub_mem hc)) (Nat.le_trans (sub_len l x) hlen)]
  unfold mmR
  rw [widG_ok l _ 0 (ok _)]
  simp only [if_true]
  rw [widG_ok l _ _ (ok _)]
  simp only [if_true]
/-- Parts are told by kinds and by where cells may be parted. -/
theorem endP_congr {l m : List S35} {p q : S35 → Bool} (hlen : l.length = m.length) (h0 : ∀ i : Int, (rd_T35 l i).f0 = (rd_T35 m i).f0) (hp : ∀ i : Int, 0 ≤ i → i < (l.length : Int) → p (rd_T35 l i) = q (rd_T35 m i)) : ∀ (n : Nat) (t : Int), 0 ≤ t → endP l p n t = endP m q n t
  | 0, _, _ => rfl
  | n + 1, t, ht => by
    unfold endP
    by_cases hc : t < (l.length : Int)
    · rw [h0 (t - 1), hp t ht hc, hlen, endP_congr hlen h0 hp n (t + 1) (by omega)]
    · rw [if_neg (fun h => hc h.1), if_neg (fun h => by have := h.1; omega)]
theorem partsL_congr {l m : List S35} {p q : S35 → Bool} (hlen : l.length = m.length) (h0 : ∀ i : Int, (rd_T35 l i).f0 = (rd_T35 m i).f0) (hp : ∀ i : Int, 0 ≤ i → i < (l.length : Int) → p (rd_T35 l i) = q (rd_T35 m i)) : ∀ (n : Nat) (i : Int), 0 ≤ i → partsL l p n i = partsL m q n i
  | 0, _, _ => rfl
  | n + 1, i, hi => by
    unfold partsL
    rw [endP_congr hlen h0 hp _ _ (by omega), hlen]
    by_cases hc : i < (m.length : Int)
    · rw [if_pos hc, if_pos hc, partsL_congr hlen h0 hp n _ (by have := endP_ge m q (m.length + 1) (i + 1) (by omega); omega)]
    · rw [if_neg hc, if_neg hc]
theorem pP_congr {l m : List S35} {p q : S35 → Bool} (hlen : l.length = m.length) (h0 : ∀ i : Int, (rd_T35 l i).f0 = (rd_T35 m i).f0) (hp : ∀ i : Int, 0 ≤ i → i < (l.length : Int) → p (rd_T35 l i) = q (rd_T35 m i)) : pP l p 0 = pP m q 0 := by
  unfold pP
  rw [partsL_congr hlen h0 hp _ 0 (by omega), hlen]
end Go.Proofs.Ytkegnlidlabjeaa.PureI
