/- With more cells behind a forced break nothing gets narrower: the plain law. No condition of its own. -/
import Derived.Test.YtkegnlidlabjeaaPureIMo
import Derived.Test.YtkegnlidlabjeaaSayIntrinsicGrows
namespace Go.Proofs.Ytkegnlidlabjeaa.PureI
set_option linter.unusedVariables false
set_option linter.unusedSimpArgs false
open Go.RowKit Go.Proofs.YtkegnlidlabjeaaW.PrintWords Go.Proofs.YtkegnlidlabjeaaW.PrintLast Go.Proofs.YtkegnlidlabjeaaW.PrintMore Go.Proofs.Ytkegnlidlabjeaa.Hand Go.Proofs.Ytkegnlidlabjeaa.HIntr
theorem widG_inv (l : List S35) : ∀ (xs : List S50) (n : Int), (widG l xs n).2 = 0 → (∀ x ∈ xs, (wide (subL l x)).2 = 0) ∧ (widG l xs n).1 = maxG l xs n
  | [], n, _ => ⟨fun x hx => (by cases hx), rfl⟩
  | y :: xs, n, h => by
    simp only [widG] at h ⊢
    by_cases hy : (wide (subL l y)).2 = 0
    · rw [if_pos hy] at h ⊢
      obtain ⟨h1, h2⟩ := widG_inv l xs _ h
      refine ⟨fun x hx => ?_, h2⟩
      rcases List.mem_cons.1 hx with rfl | hx
      · exact hy
      · exact h1 x hx
    · rw [if_neg hy] at h
      exact absurd h hy
theorem mm_inv {l : List S35} (h : (mmR l).2.2 = 0) : (∀ x ∈ pP l softB 0, (wide (subL l x)).2 = 0) ∧ (∀ x ∈ pP l neverB 0, (wide (subL l x)).2 = 0) ∧ mmR l = (maxG l (pP l softB 0) 0, maxG l (pP l neverB 0) (maxG l (pP l softB 0) 0), 0) := by
  by_cases h1 : (widG l (pP l softB 0) 0).2 = 0
  · obtain ⟨a1, a2⟩ := widG_inv l _ _ h1
    by_cases h2 : (widG l (pP l neverB 0) (widG l (pP l softB 0) 0).1).2 = 0
    · obtain ⟨b1, b2⟩ := widG_inv l _ _ h2
      refine ⟨a1, b1, ?_⟩
      unfold mmR
      rw [if_pos h1, if_pos h2, b2, a2]
    · unfold mmR at h
      rw [if_pos h1, if_neg h2] at h
      exact absurd h h2
  · unfold mmR at h
    rw [if_neg h1] at h
    exact absurd h h1
theorem mm_err {l : List S35} (h : ¬ (mmR l).2.2 = 0) : (mmR l).1 = 0 ∧ (mmR l).2.1 = 0 := by
  unfold mmR at h ⊢
  by_cases h1 : (widG l (pP l softB 0) 0).2 = 0
  · by_cases h2 : (widG l (pP l neverB 0) (widG l (pP l softB 0) 0).1).2 = 0
    · rw [if_pos h1, if_pos h2] at h; exact absurd rfl h
    · rw [if_pos h1, if_neg h2]; exact ⟨rfl, rfl⟩
  · rw [if_neg h1]; exact ⟨rfl, rfl⟩
/-- A forced break without a width. -/
def brk : S35 := ⟨5, 0, 0, 0, false, false⟩
theorem roles_brk : ∀ (a : Bool) (l : List S35), rolesZ a (l ++ [brk]) = rolesZ a l ++ [0]
  | a, [] => by
    have : roleZ a brk [] = 0 := by unfold roleZ; rw [if_neg (fun h => absurd h.1 (by decide)), if_neg (fun h => absurd h.1 (by decide))]
    simp [rolesZ, this]
  | a, c :: l => by
    simp only [List.cons_append, rolesZ]
    rw [roles_brk]
    congr 1
    unfold roleZ
    rw [List.all_append, List.all_append]
    have e1 : [brk].all blankB = true := by decide
    have e2 : [brk].all hangB = true := by decide
    rw [e1, e2, Bool.and_true, Bool.and_true]
theorem walk_more (rs : List Int) (z : List Int) : ∀ (l : List S35) (i : Nat) (x : Int), i + l.length ≤ rs.length → walk (rs ++ z) l i x = walk rs l i x
  | [], i, x, _ => rfl
  | c :: l, i, x, h => by
    rw [List.length_cons] at h
    have e : roleAt (rs ++ z) i = roleAt rs i := by
      unfold roleAt rd
      rw [if_pos (by rw [List.length_append]; omega), if_pos (by omega)]
      simp only [Int.toNat_natCast, List.getD_eq_getElem?_getD]
      rw [List.getElem?_append_left (by omega)]
    simp only [walk]
    rw [e]
    congr 1
    funext y
    rw [walk_more rs z l (i + 1) y (by omega)]
theorem walk_app (rs : List Int) : ∀ (l1 l2 : List S35) (i : Nat) (x : Int), walk rs (l1 ++ l2) i x = (walk rs l1 i x).bind fun ys => (walk rs l2 (i + l1.length) (lastD x ys)).map (ys ++ ·)
  | [], l2, i, x => by simp [walk, lastD]
  | c :: l1, l2, i, x => by
    simp only [List.cons_append, walk]
    cases hn : nxtR (roleAt rs i) c x with
    | none => rfl
    | some y =>
      simp only [Option.bind_some]
      rw [walk_app rs l1 l2 (i + 1) y, show i + 1 + l1.length = i + (c :: l1).length by rw [List.length_cons]; omega]
      cases walk rs l1 (i + 1) y with
      | none => rfl
      | some ys =>
        simp only [Option.bind_some, Option.map_some, lastD]
        cases walk rs l2 (i + (c :: l1).length) (lastD y ys) <;> rfl
theorem walk_fits (rs : List Int) : ∀ (l : List S35) (i : Nat) (x : Int) (ys : List Int), fits x → walk rs l i x = some ys → fits (lastD x ys)
  | [], i, x, ys, hx, h => by simp only [walk, Option.some.injEq] at h; rw [← h]; exact hx
  | c :: l, i, x, ys, hx, h => by
    simp only [walk] at h
    obtain ⟨y, h1, h2⟩ := Option.bind_eq_some_iff.1 h
    obtain ⟨zs, h3, h4⟩ := Option.map_eq_some_iff.1 h2
    rw [← h4]
    exact walk_fits rs l (i + 1) y zs (nxtR_fits hx h1) h3
theorem lastD_snoc : ∀ (x y : Int) (ys : List Int), lastD x (ys ++ [y]) = y
  | _, _, [] => rfl
  | _, y, z :: ys => lastD_snoc z y ys
theorem wide_brk {s : List S35} (h : (wide s).2 = 0) : wide (s ++ [brk]) = wide s := by
  unfold wide at h ⊢
  unfold endR at h
  rcases pensR_or ((rolesZ true s).map unH) s 0 with ⟨e, he, _, hp⟩ | ⟨ys, hp, hw, hf, hb⟩
  · rw [hp, if_neg he] at h
    exact absurd h he
  · have hl : ((rolesZ true s).map unH).length = s.length := by rw [List.length_map, rolesZ_len]
    have e0 : ((rolesZ true (s ++ [brk])).map unH) = (rolesZ true s).map unH ++ [0] := by rw [roles_brk, List.map_append]; rfl
    have hy := walk_fits _ _ _ _ _ hf hw
    have hr : roleAt ((rolesZ true s).map unH ++ [0]) (0 + s.length) = 0 := by
      unfold roleAt rd
      rw [if_pos (by rw [List.length_append, hl]; simp; omega)]
      simp only [Int.toNat_natCast, List.getD_eq_getElem?_getD]
      rw [List.getElem?_append_right (by omega), hl]
      simp
    have e1 : walk ((rolesZ true s).map unH ++ [0]) (s ++ [brk]) 0 0 = some (ys ++ [lastD 0 ys]) := by
      rw [walk_app, walk_more _ _ _ _ _ (by omega), hw, Option.bind_some]
      simp only [walk]
      rw [hr]
      have : nxtR 0 brk (lastD 0 ys) = some (lastD 0 ys) := by
        unfold nxtR nxt fitO
        rw [if_neg (by decide), if_neg (by decide), show brk.f3 = 0 from rfl, Int.add_zero, if_pos hy]
      rw [this]
      rfl
    have hb2 : (s ++ [brk]).any badTab = false := by
      rw [List.any_append, hb]
      rfl
    have g1 := pensR_some e1 hf hb2
    unfold endR
    rw [e0, g1, hp, if_pos rfl, if_pos rfl]
    show (lastD 0 (ys ++ [lastD 0 ys]), (0 : Int)) = (lastD 0 ys, 0)
    rw [lastD_snoc]
def moreL (l m : List S35) : List S35 := l ++ [brk] ++ m
theorem more_len (l m : List S35) : (moreL l m).length = l.length + 1 + m.length := by unfold moreL; simp; omega
theorem more_rd (l m : List S35) (i : Int) (h0 : 0 ≤ i) (h : i < (l.length : Int)) : rd_T35 (moreL l m) i = rd_T35 l i := by
  unfold rd_T35 moreL
  rw [List.getD_eq_getElem?_getD, List.getD_eq_getElem?_getD, List.append_assoc, List.getElem?_append_left (by omega)]
theorem more_brk (l m : List S35) : rd_T35 (moreL l m) (l.length : Int) = brk := by
  unfold rd_T35 moreL
  rw [List.getD_eq_getElem?_getD, List.append_assoc, Int.toNat_natCast, List.getElem?_append_right (Nat.le_refl _)]
  simp
theorem more_end {l m : List S35} {p : S35 → Bool} (hp : p brk = false) : ∀ (r : Nat) (t : Int), 1 ≤ t → t + r = (l.length : Int) → (eP (moreL l m) p t = eP l p t ∨ (eP l p t = (l.length : Int) ∧ eP (moreL l m) p t = (l.length : Int) + 1))
  | 0, t, h1, h2 => by
    have et : t = (l.length : Int) := by omega
    have e1 : eP l p t = t := eP_stop (fun h => by omega)
    by_cases h5 : (rd_T35 (moreL l m) (t - 1)).f0 = 5
    · left
      rw [e1, eP_stop (fun h => h.2.1 h5)]
    · right
      have hm := more_len l m
      refine ⟨by rw [e1]; exact et, ?_⟩
      rw [eP_go (by omega) (by omega) h5 (by rw [et, more_brk]; exact hp), eP_stop (fun h => h.2.1 (by rw [show t + 1 - 1 = (l.length : Int) by omega, more_brk]; rfl))]
      omega
  | r + 1, t, h1, h2 => by
    have hm := more_len l m
    have r1 := more_rd l m (t - 1) (by omega) (by omega)
    have r2 := more_rd l m t (by omega) (by omega)
    by_cases hc : (rd_T35 l (t - 1)).f0 ≠ 5 ∧ p (rd_T35 l t) = false
    · rw [eP_go (l := l) (by omega) (by omega) hc.1 hc.2, eP_go (l := moreL l m) (by omega) (by omega) (by rw [r1]; exact hc.1) (by rw [r2]; exact hc.2)]
      exact more_end hp r (t + 1) (by omega) (by omega)
    · left
      rw [eP_stop (l := l) (fun h => hc h.2), eP_stop (l := moreL l m) (fun h => hc (by rw [← r1, ← r2]; exact h.2))]
theorem more_parts {l m : List S35} {p : S35 → Bool} (hp : p brk = false) : ∀ (K : Nat) (i : Int), 0 ≤ i → i ≤ (l.length : Int) → (l.length : Int) - i < K → ∀ x ∈ pP l p i, ∃ y ∈ pP (moreL l m) p i, y.f0 = x.f0 ∧ (y.f1 = x.f1 ∨ (x.f1 = (l.length : Int) ∧ y.f1 = (l.length : Int) + 1))
  | 0, i, _, h1, h2, _, _ => by omega
  | K + 1, i, h0, h1, h2, x, hx => by
    have hm := more_len l m
    by_cases hi : i < (l.length : Int)
    · rw [pP_cons h0 hi] at hx
      rw [pP_cons (l := moreL l m) h0 (by omega)]
      have hg := eP_ge l p (t := i + 1) (by omega)
      have he := more_end (l := l) (m := m) hp ((l.length : Int) - (i + 1)).toNat (i + 1) (by omega) (by omega)
      rcases List.mem_cons.1 hx with rfl | hx
      · exact ⟨_, List.mem_cons_self .., rfl, by
          rcases he with he | he
          · exact .inl he
          · exact .inr he⟩
      · by_cases hel : eP l p (i + 1) < (l.length : Int)
        · have e : eP (moreL l m) p (i + 1) = eP l p (i + 1) := by
            rcases he with he | he
            · exact he
            · omega
          obtain ⟨y, hy, g⟩ := more_parts hp K (eP l p (i + 1)) (by omega) hg.2 (by omega) x hx
          exact ⟨y, List.mem_cons_of_mem _ (by rw [e]; exact hy), g⟩
        · rw [pP_nil (by omega)] at hx
          cases hx
    · rw [pP_nil (by omega)] at hx
      cases hx
theorem more_wide {l m : List S35} {x y : S50} (hx : 0 ≤ x.f0 ∧ x.f0 ≤ x.f1 ∧ x.f1 ≤ (l.length : Int)) (h0 : y.f0 = x.f0) (h1 : y.f1 = x.f1 ∨ (x.f1 = (l.length : Int) ∧ y.f1 = (l.length : Int) + 1)) (hok : (wide (subL l x)).2 = 0) : wide (subL (moreL l m) y) = wide (subL l x) := by
  rcases h1 with h1 | ⟨h1, h2⟩
  · unfold subL moreL
    rw [h0, h1, List.append_assoc, List.take_append_of_le_length (by omega)]
  · rw [← wide_brk hok]
    congr 1
    unfold subL moreL
    rw [h0, h1, h2, show ((l.length : Int) + 1).toNat = (l ++ [brk]).length by simp, List.take_left, Int.toNat_natCast, List.take_length, List.drop_append_of_le_length (by omega)]
theorem more_max {l m : List S35} {p : S35 → Bool} (hp : p brk = false) (hok : ∀ x ∈ pP l p 0, (wide (subL l x)).2 = 0) {n n' : Int} (hn : n ≤ n') : maxG l (pP l p 0) n ≤ maxG (moreL l m) (pP (moreL l m) p 0) n' := by
  have g := maxG_ge (moreL l m) (pP (moreL l m) p 0) n'
  refine maxG_le l _ _ _ (by omega) (fun x hx => ?_)
  obtain ⟨y, hy, h0, h1⟩ := more_parts (m := m) hp (l.length + 1) 0 (by omega) (by omega) (by omega) x hx
  rw [← more_wide (m := m) (pP_in x hx) h0 h1 (hok x hx)]
  exact g.2 y hy
def hardC (c : S35) : S35 := ⟨c.f0, c.f1, c.f2, c.f3, false, false⟩
theorem hard_eq {l : List S35} (h : (mmR (l.map hardC)).2.2 = 0) : (mmR (l.map hardC)).1 = (mmR (l.map hardC)).2.1 := by
  obtain ⟨_, _, e⟩ := mm_inv h
  rw [e]
  have hp : pP (l.map hardC) softB 0 = pP (l.map hardC) neverB 0 := pP_congr rfl (fun _ => rfl) (fun i h0 h1 => by
    rw [List.length_map] at h1
    obtain ⟨j, rfl⟩ := Int.eq_ofNat_of_zero_le h0
    rw [rd_nat _ (by rw [List.length_map]; omega), List.getElem_map]
    rfl)
  simp only []
  rw [← hp]
  have g := maxG_ge (l.map hardC) (pP (l.map hardC) softB 0) 0
  exact Int.le_antisymm (maxG_ge _ _ _).1 (maxG_le _ _ _ _ (Int.le_refl _) g.2)
theorem grows_l0 {l : List S35} (hl : l.length ≤ 60) {a b c d f : Int} (h0 : 0 ≤ a) (h1 : a ≤ b) (h2 : f = 0 → a ≤ c ∧ b ≤ d) (hok : ∀ x ∈ l, okC x) : ∀ (r i : Nat), i + r = l.length →
    Ev (fun k => stickfullaw21_IntrinsicGrows.l0 k l a b c d f ((l.take i).map hardC) (i : Int)) true := by
  intro r
  induction r with
  | zero =>
    intro i hi
    rw [List.take_of_length_le (by omega)]
    refine Ev.step (f := fun k => (stickfullaw21_head.f k).bind fun t => some t) (fun k => ?_) head_ev2
    simp only [stickfullaw21_IntrinsicGrows.l0]
    rw [if_neg (by omega), mm_eq (by rw [List.length_map]; omega) (fun x hx => by
      obtain ⟨y, hy, rfl⟩ := List.mem_map.1 hx
      exact hok y hy), Option.bind_some, if_pos h0, if_pos h1]
    have fin : (if (mmR (l.map hardC)).2.2 = 0 then (if (mmR (l.map hardC)).1 = (mmR (l.map hardC)).2.1 then ((stickfullaw21_head.f k).bind fun t => some t) else (some false)) else ((stickfullaw21_head.f k).bind fun t => some t)) = ((stickfullaw21_head.f k).bind fun t => some t) := by
      by_cases hg : (mmR (l.map hardC)).2.2 = 0
      · rw [if_pos hg, if_pos (hard_eq hg)]
      · rw [if_neg hg]
    by_cases hf : f = 0
    · obtain ⟨h3, h4⟩ := h2 hf
      rw [if_pos hf, if_pos h3, if_pos h4]
      exact fin
    · rw [if_neg hf]
      exact fin
  | succ r ih =>
    intro i hi
    have e : (l.take (i + 1)).map hardC = (l.take i).map hardC ++ [hardC l[i]] := by rw [List.take_add_one, List.getElem?_eq_getElem (by omega), List.map_append]; rfl
    have := ih (i + 1) (by omega)
    rw [e] at this
    refine Ev.step (fun k => ?_) this
    simp only [stickfullaw21_IntrinsicGrows.l0]
    rw [if_pos (by omega), if_pos (by omega), if_pos (by rw [List.length_map, List.length_take]; omega), rd_nat l (by omega), w1 (by omega)]
    rfl
theorem IntrinsicGrows : stickfullaw21_IntrinsicGrows.Pure := by
  intro l m hl hm
  refine Ev.rounds (r := true) ?_
  show Ev (fun k => stickfullaw21_IntrinsicGrows.f k l m) true
  have hok : ∀ d ∈ l, okC d := fun d hd => okC_of (hl.2.2 d hd)
  have hokm : ∀ d ∈ m, okC d := fun d hd => okC_of (hm.2.2 d hd)
  have htrue : Ev (fun k => stickfullaw21_IntrinsicGrows.j0 k l m true) true := by
    refine Ev.step (fun k => ?_) head_ev2
    simp only [stickfullaw21_IntrinsicGrows.j0]
    rw [if_pos trivial]
  unfold stickfullaw21_IntrinsicGrows.f
  by_cases h1 : (l.length : Int) > 60
  · exact Ev.congr (fun k => if_pos h1) htrue
  · refine Ev.congr (fun k => if_neg h1) ?_
    by_cases h2 : (m.length : Int) > 60
    · rw [decide_eq_true h2]; exact htrue
    · rw [decide_eq_false h2]
      have hml := more_len l m
      have hokM : ∀ d ∈ moreL l m, okC d := fun d hd => by
        unfold moreL at hd
        rcases List.mem_append.1 hd with h | h
        · rcases List.mem_append.1 h with h | h
          · exact hok d h
          · rw [List.mem_singleton] at h; rw [h]; unfold okC in64 brk; simp
        · exact hokm d h
      by_cases he : (mmR l).2.2 = 0
      · obtain ⟨a1, a2, a3⟩ := mm_inv he
        have A := maxG_ge l (pP l softB 0) 0
        have B := maxG_ge l (pP l neverB 0) (maxG l (pP l softB 0) 0)
        have hE := grows_l0 (l := l) (by omega) (a := (mmR l).1) (b := (mmR l).2.1) (c := (mmR (moreL l m)).1) (d := (mmR (moreL l m)).2.1) (f := (mmR (moreL l m)).2.2) (by rw [a3]; exact A.1) (by rw [a3]; exact B.1) (fun hf => by
          obtain ⟨b1, b2, b3⟩ := mm_inv hf
          rw [a3, b3]
          have k1 := more_max (m := m) (p := softB) rfl a1 (Int.le_refl 0)
          exact ⟨k1, more_max (m := m) (p := neverB) rfl a2 k1⟩) hok l.length 0 (by omega)
        refine Ev.step (fun k => ?_) hE
        simp only [stickfullaw21_IntrinsicGrows.j0]
        rw [if_neg (by decide), mm_eq (by omega) hok, Option.bind_some, if_pos he]
        simp only [Option.bind_some, List.nil_append, List.length_nil, Nat.zero_add]
        have em : l ++ [(⟨5, 0, 0, 0, false, false⟩ : S35)] ++ m = moreL l m := rfl
        rw [if_pos (by omega), if_pos (by omega), if_pos (by rw [List.length_append]; simp; omega), em, mm_eq (by omega) hokM, Option.bind_some]
        rfl
      · obtain ⟨z1, z2⟩ := mm_err he
        refine Ev.step (fun k => ?_) head_ev2
        simp only [stickfullaw21_IntrinsicGrows.j0]
        rw [if_neg (by decide), mm_eq (by omega) hok, Option.bind_some, if_neg he, if_pos z1, if_pos z2]
end Go.Proofs.Ytkegnlidlabjeaa.PureI
namespace Go.Proofs.Ytkegnlidlabjeaa.Pure
theorem IntrinsicGrows : Go.Proofs.Ytkegnlidlabjeaa.HIntr.stickfullaw21_IntrinsicGrows.Pure := Go.Proofs.Ytkegnlidlabjeaa.PureI.IntrinsicGrows
end Go.Proofs.Ytkegnlidlabjeaa.Pure
