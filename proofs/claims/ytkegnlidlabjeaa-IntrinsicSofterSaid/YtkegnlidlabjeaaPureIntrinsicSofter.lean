/- More places where cells may be parted make nothing wider, and wider cells nothing narrower: the plain law. No condition of its own. -/
import Derived.Test.YtkegnlidlabjeaaPureIMo
import Derived.Test.YtkegnlidlabjeaaSayIntrinsicSofter
namespace Go.Proofs.Ytkegnlidlabjeaa.PureI
set_option linter.unusedVariables false
set_option linter.unusedSimpArgs false
open Go.RowKit Go.Proofs.YtkegnlidlabjeaaW.PrintWords Go.Proofs.YtkegnlidlabjeaaW.PrintLast Go.Proofs.YtkegnlidlabjeaaW.PrintMore Go.Proofs.Ytkegnlidlabjeaa.Hand Go.Proofs.Ytkegnlidlabjeaa.HIntr
theorem rd_set35 (l : List S35) (k : Nat) (c : S35) (hk : k < l.length) (i : Int) : rd_T35 (l.set k c) i = if i.toNat = k then c else rd_T35 l i := by
  unfold rd_T35
  rw [List.getD_eq_getElem?_getD, List.getD_eq_getElem?_getD, List.getElem?_set]
  by_cases h : k = i.toNat
  · rw [if_pos h, if_pos hk, if_pos h.symm]; rfl
  · rw [if_neg h, if_neg (fun e => h e.symm)]
theorem mem_set {l : List S35} {k : Nat} {c d : S35} (h : d ∈ l.set k c) : d = c ∨ d ∈ l := by
  rcases List.mem_or_eq_of_mem_set h with h | h
  · exact .inr h
  · exact .inl h
theorem leS_refl : ∀ l : List S35, leS l l
  | [] => trivial
  | c :: l => ⟨⟨rfl, Int.le_refl _, fun _ => rfl⟩, leS_refl l⟩
theorem leS_set : ∀ (l : List S35) (k : Nat) (c : S35) (hk : k < l.length), l[k].f0 = c.f0 → l[k].f3 ≤ c.f3 → (l[k].f0 = 4 → l[k].f3 = c.f3) → leS l (l.set k c)
  | d :: l, 0, c, _, h1, h2, h3 => ⟨⟨h1, h2, h3⟩, leS_refl l⟩
  | d :: l, k + 1, c, hk, h1, h2, h3 => ⟨⟨rfl, Int.le_refl _, fun _ => rfl⟩, leS_set l k c (by simpa using hk) h1 h2 h3⟩
theorem leS_set' : ∀ (l : List S35) (k : Nat) (c : S35) (hk : k < l.length), l[k].f0 = c.f0 → l[k].f3 = c.f3 → leS (l.set k c) l
  | d :: l, 0, c, _, h1, h2 => ⟨⟨h1.symm, Int.le_of_eq h2.symm, fun _ => h2.symm⟩, leS_refl l⟩
  | d :: l, k + 1, c, hk, h1, h2 => ⟨⟨rfl, Int.le_refl _, fun _ => rfl⟩, leS_set' l k c (by simpa using hk) h1 h2⟩
theorem leS_drop : ∀ {l m : List S35} (n : Nat), leS l m → leS (l.drop n) (m.drop n)
  | _, _, 0, h => h
  | [], [], n + 1, _ => trivial
  | c :: l, d :: m, n + 1, h => leS_drop n h.2
  | [], d :: m, _ + 1, h => h.elim
  | c :: l, [], _ + 1, h => h.elim
theorem leS_take : ∀ {l m : List S35} (n : Nat), leS l m → leS (l.take n) (m.take n)
  | _, _, 0, _ => trivial
  | [], [], n + 1, _ => trivial
  | c :: l, d :: m, n + 1, h => ⟨h.1, leS_take n h.2⟩
  | [], d :: m, _ + 1, h => h.elim
  | c :: l, [], _ + 1, h => h.elim
theorem leS_sub {l m : List S35} (h : leS l m) (x : S50) : leS (subL l x) (subL m x) := leS_drop _ (leS_take _ h)
theorem wide_le {l m : List S35} (h : leS l m) (hu : ∀ c ∈ l, up c) (hv : ∀ c ∈ m, up c) (h1 : l.length ≤ 1000) (h2 : m.length ≤ 1000) (x : S50) : (wide (subL l x)).1 ≤ (wide (subL m x)).1 := by
  rw [wide_pen (fun c hc => hu c (sub_mem hc)) (Nat.le_trans (sub_len l x) h1), wide_pen (fun c hc => hv c (sub_mem hc)) (Nat.le_trans (sub_len m x) h2)]
  exact pen_le true 0 0 (leS_sub h x) (fun c hc => hu c (sub_mem hc)) (fun c hc => hv c (sub_mem hc)) (Int.le_refl _)
theorem cut_never {l : List S35} {q : S35 → Bool} (t : Int) (h : cutT l neverB t) : cutT l q t := by
  rcases h with h | h
  · exact .inl h
  · cases h
theorem soft_j2 (l s m : List S35) (hl : l.length ≤ 120) (hs : s.length = l.length) (hm : m.length = l.length) (hu : ∀ c ∈ l, up c) (us : ∀ c ∈ s, up c) (um : ∀ c ∈ m, up c) (ls : leS l s) (sl : leS s l) (lm : leS l m)
    (fs : ∀ i : Int, (rd_T35 l i).f0 = (rd_T35 s i).f0) (ps : ∀ i : Int, softB (rd_T35 l i) = true → softB (rd_T35 s i) = true) (fm : ∀ i : Int, (rd_T35 l i).f0 = (rd_T35 m i).f0) (pm : ∀ i : Int, softB (rd_T35 l i) = softB (rd_T35 m i)) :
    Ev (fun k => stickfullaw21_IntrinsicSofter.j2 k l s m) true := by
  have in64_of : ∀ {w : List S35}, (∀ c ∈ w, up c) → ∀ c ∈ w, okC c := fun h c hc => by have := h c hc; unfold up at this; unfold okC in64; omega
  have eN : pP l neverB 0 = pP s neverB 0 := pP_congr hs.symm fs (fun _ _ _ => rfl)
  have eNm : pP l neverB 0 = pP m neverB 0 := pP_congr hm.symm fm (fun _ _ _ => rfl)
  have eSm : pP l softB 0 = pP m softB 0 := pP_congr hm.symm fm (fun i _ _ => pm i)
  have wls : ∀ x, (wide (subL l x)).1 = (wide (subL s x)).1 := fun x => Int.le_antisymm (wide_le ls hu us (by omega) (by omega) x) (wide_le sl us hu (by omega) (by omega) x)
  have wlm : ∀ x, (wide (subL l x)).1 ≤ (wide (subL m x)).1 := fun x => wide_le lm hu um (by omega) (by omega) x
  have A := maxG_ge l (pP l softB 0) 0
  have B := maxG_ge l (pP l neverB 0) (maxG l (pP l softB 0) 0)
  have C := maxG_ge s (pP s softB 0) 0
  have D := maxG_ge s (pP s neverB 0) (maxG s (pP s softB 0) 0)
  have X := maxG_ge m (pP m softB 0) 0
  have Y := maxG_ge m (pP m neverB 0) (maxG m (pP m softB 0) 0)
  have cut_ls : ∀ t, cutT l softB t → cutT s softB t := fun t h => by
    rcases h with h | h
    · exact .inl (by rw [← fs]; exact h)
    · exact .inr (ps _ h)
  have k1 : maxG s (pP s softB 0) 0 ≤ maxG l (pP l softB 0) 0 := maxG_le s _ _ 0 A.1 (fun x hx => by
    obtain ⟨y, hy, h0, h1, h2, h3, h4⟩ := part_in (l := l) hs.symm cut_ls hx
    rw [← wls x]
    exact Int.le_trans (sub_wide hu (by omega) h0 h1 h2 h3) (A.2 y hy))
  have k2 : maxG l (pP l softB 0) 0 ≤ maxG s (pP s neverB 0) (maxG s (pP s softB 0) 0) := maxG_le l _ _ 0 (by omega) (fun x hx => by
    obtain ⟨y, hy, h0, h1, h2, h3, h4⟩ := part_in (l := l) (m := l) (p := neverB) rfl (fun t => cut_never t) hx
    have g := D.2 y (by rw [← eN]; exact hy)
    rw [← wls y] at g
    exact Int.le_trans (sub_wide hu (by omega) h0 h1 h2 h3) g)
  have k3 : maxG l (pP l neverB 0) (maxG l (pP l softB 0) 0) ≤ maxG s (pP s neverB 0) (maxG s (pP s softB 0) 0) := maxG_le l _ _ _ k2 (fun x hx => by
    rw [wls x]
    exact D.2 x (by rw [← eN]; exact hx))
  have k4 : maxG s (pP s neverB 0) (maxG s (pP s softB 0) 0) ≤ maxG l (pP l neverB 0) (maxG l (pP l softB 0) 0) := maxG_le s _ _ _ (by omega) (fun x hx => by
    rw [← wls x]
    exact B.2 x (by rw [eN]; exact hx))
  have k5 : maxG l (pP l softB 0) 0 ≤ maxG m (pP m softB 0) 0 := maxG_le l _ _ 0 X.1 (fun x hx => Int.le_trans (wlm x) (X.2 x (by rw [← eSm]; exact hx)))
  have k6 : maxG l (pP l neverB 0) (maxG l (pP l softB 0) 0) ≤ maxG m (pP m neverB 0) (maxG m (pP m softB 0) 0) := maxG_le l _ _ _ (by omega) (fun x hx => Int.le_trans (wlm x) (Y.2 x (by rw [← eNm]; exact hx)))
  refine Ev.step (f := fun k => (intrinsic_MinMax.f l).bind fun bt410 => ((intrinsic_MinMax.f s).bind fun bt413 => ((intrinsic_MinMax.f m).bind fun bt416 => (if bt410.2.2 = 0 then (if bt413.2.2 = 0 then (if bt416.2.2 = 0 then (if bt413.1 ≤ bt410.1 then (if bt413.2.1 = bt410.2.1 then (if bt416.1 ≥ bt410.1 then (if bt416.2.1 ≥ bt410.2.1 then ((stickfullaw21_head.f k).bind fun t419 => (some t419)) else (some false)) else (some false)) else (some false)) else (some false)) else (some false)) else (some false)) else (some false))))) (fun k => ?_) ?_
  · simp only [stickfullaw21_IntrinsicSofter.j2]
  · rw [mm_eq (by omega) (in64_of hu), mm_eq (by omega) (in64_of us), mm_eq (by omega) (in64_of um), mm_up hu (by omega), mm_up us (by omega), mm_up um (by omega)]
    refine Ev.congr (fun k => ?_) head_ev2
    simp only [Option.bind_some]
    rw [if_pos trivial, if_pos trivial, if_pos trivial, if_pos k1, if_pos (Int.le_antisymm k4 k3), if_pos k5, if_pos k6]
theorem softer_l0 {l : List S35} {a b : Int} (hl : l.length ≤ 120) (hl0 : 0 < l.length) (ha : 0 ≤ a ∧ a ≤ 255) (hb : 0 ≤ b ∧ b ≤ 65535) : ∀ (r i : Nat), i + r = l.length → (∀ j, j < i → 0 ≤ (rd_T35 l (j : Int)).f3 ∧ (rd_T35 l (j : Int)).f3 ≤ 1099511627776) →
    Ev (fun k => stickfullaw21_IntrinsicSofter.l0 k l a b (i : Int)) true := by
  intro r
  induction r with
  | zero =>
    intro i hi hp
    have hu1 : ∀ c ∈ l, 0 ≤ c.f3 ∧ c.f3 ≤ 1099511627776 := fun c hc => by
      obtain ⟨j, hj, rfl⟩ := List.getElem_of_mem hc
      have := hp j (by omega)
      rw [rd_nat l hj] at this
      exact this
    have hu : ∀ c ∈ l, up c := fun c hc => by have := hu1 c hc; unfold up; omega
    obtain ⟨q, hq⟩ : ∃ q : Nat, Int.tmod (wrap64 a) (l.length : Int) = (q : Int) := by
      rw [ws (by omega) (by omega), Int.tmod_eq_emod_of_nonneg ha.1]
      exact Int.eq_ofNat_of_zero_le (Int.emod_nonneg _ (by omega))
    have hql : q < l.length := by
      have : a % (l.length : Int) < l.length := Int.emod_lt_of_pos a (by omega)
      rw [ws (by omega) (by omega), Int.tmod_eq_emod_of_nonneg ha.1] at hq
      omega
    have hwb : wrap64 b = b := ws (by omega) (by omega)
    have hrq := rd_nat l hql
    have u0 := hu1 l[q] (List.getElem_mem hql)
    obtain ⟨sc, hsc⟩ : ∃ sc : S35, sc = ⟨l[q].f0, l[q].f1, l[q].f2, l[q].f3, true, l[q].f5⟩ := ⟨_, rfl⟩
    obtain ⟨wc, hwc⟩ : ∃ wc : S35, wc = ⟨l[q].f0, l[q].f1, l[q].f2, l[q].f3 + b, l[q].f4, l[q].f5⟩ := ⟨_, rfl⟩
    have hww : wrap64 (l[q].f3 + b) = l[q].f3 + b := ws (by omega) (by omega)
    have eq1 : ∀ i : Int, i.toNat = q → rd_T35 l i = l[q] := fun i hi => by unfold rd_T35; rw [hi]; simp [List.getD, hql]
    have us : ∀ c ∈ l.set q sc, up c := fun c hc => by
      rcases mem_set hc with rfl | h
      · rw [hsc]; unfold up; simp only; omega
      · exact hu c h
    have uw : ∀ c ∈ l.set q wc, up c := fun c hc => by
      rcases mem_set hc with rfl | h
      · rw [hwc]; unfold up; simp only; omega
      · exact hu c h
    have fs : ∀ i : Int, (rd_T35 l i).f0 = (rd_T35 (l.set q sc) i).f0 := fun i => by
      rw [rd_set35 l q sc hql]
      by_cases h : i.toNat = q
      · rw [if_pos h, eq1 i h, hsc]
      · rw [if_neg h]
    have ps : ∀ i : Int, softB (rd_T35 l i) = true → softB (rd_T35 (l.set q sc) i) = true := fun i h1 => by
      rw [rd_set35 l q sc hql]
      by_cases h : i.toNat = q
      · rw [if_pos h, hsc]; rfl
      · rw [if_neg h]; exact h1
    have l1 : leS l (l.set q sc) := leS_set l q sc hql (by rw [hsc]) (by rw [hsc]; exact Int.le_refl _) (fun _ => by rw [hsc])
    have l2 : leS (l.set q sc) l := leS_set' l q sc hql (by rw [hsc]) (by rw [hsc])
    have fin4 : l[q].f0 = 4 → Ev (fun k => stickfullaw21_IntrinsicSofter.j2 k l (l.set q sc) l) true := fun _ => soft_j2 l _ _ hl (by simp) rfl hu us hu l1 l2 (leS_refl l) fs ps (fun _ => rfl) (fun _ => rfl)
    have finW : l[q].f0 ≠ 4 → Ev (fun k => stickfullaw21_IntrinsicSofter.j2 k l (l.set q sc) (l.set q wc)) true := fun h4 => by
      refine soft_j2 l _ _ hl (by simp) (by simp) hu us uw l1 l2 (leS_set l q wc hql (by rw [hwc]) (by rw [hwc]; simp only; omega) (fun h => absurd h h4)) fs ps (fun i => ?_) (fun i => ?_)
      · rw [rd_set35 l q wc hql]
        by_cases h : i.toNat = q
        · rw [if_pos h, eq1 i h, hwc]
        · rw [if_neg h]
      · rw [rd_set35 l q wc hql]
        by_cases h : i.toNat = q
        · rw [if_pos h, eq1 i h, hwc]; rfl
        · rw [if_neg h]
    have key : ∀ k, stickfullaw21_IntrinsicSofter.l0 (k + 1) l a b (i : Int) = if l[q].f0 = 4 then stickfullaw21_IntrinsicSofter.j2 k l (l.set q sc) l else stickfullaw21_IntrinsicSofter.j2 k l (l.set q sc) (l.set q wc) := by
      intro k
      simp only [stickfullaw21_IntrinsicSofter.l0]
      rw [if_neg (by omega), if_neg (by omega)]
      simp only [Option.bind_some, List.nil_append, List.length_nil, Nat.zero_add]
      rw [if_pos (by omega), hq, if_pos (by omega), if_pos (by omega), if_pos (by omega), if_pos (by omega), hrq, hwb, hww, ← hsc, ← hwc]
      rfl
    refine Ev.step key ?_
    by_cases h4 : l[q].f0 = 4
    · exact Ev.congr (fun k => if_pos h4) (fin4 h4)
    · exact Ev.congr (fun k => if_neg h4) (finW h4)
  | succ r ih =>
    intro i hi hp
    by_cases c1 : (rd_T35 l (i : Int)).f3 < 0
    · refine Ev.step (fun k => ?_) head_ev2
      simp only [stickfullaw21_IntrinsicSofter.l0]
      rw [if_pos (by omega), if_pos (by omega), if_pos c1]
    · by_cases c2 : (rd_T35 l (i : Int)).f3 > 1099511627776
      · refine Ev.step (fun k => ?_) head_ev2
        simp only [stickfullaw21_IntrinsicSofter.l0]
        rw [if_pos (by omega), if_pos (by omega), if_neg c1, if_pos c2]
      · refine Ev.step (fun k => ?_) (ih (i + 1) (by omega) (fun j hj => by
          by_cases hji : j = i
          · subst hji; omega
          · exact hp j (by omega)))
        simp only [stickfullaw21_IntrinsicSofter.l0]
        rw [if_pos (by omega), if_pos (by omega), if_neg c1, if_neg c2, w1 (by omega)]
theorem u16_of {n : Int} (h : (Lit.int .u16 n).wf = true) : 0 ≤ n ∧ n ≤ 65535 := by
  have h2 : IntKind.u16.min ≤ n ∧ n ≤ IntKind.u16.max := by simpa [Lit.wf] using h
  have e1 : IntKind.u16.min = 0 := rfl
  have e2 : IntKind.u16.max = 65535 := rfl
  omega
theorem IntrinsicSofter : stickfullaw21_IntrinsicSofter.Pure := by
  intro l a b hl ha hb
  refine Ev.rounds (r := true) ?_
  show Ev (fun k => stickfullaw21_IntrinsicSofter.f k l a b) true
  have htrue : Ev (fun k => stickfullaw21_IntrinsicSofter.j0 k l a b true) true := by
    refine Ev.step (fun k => ?_) head_ev2
    simp only [stickfullaw21_IntrinsicSofter.j0]
    rw [if_pos trivial]
  unfold stickfullaw21_IntrinsicSofter.f
  refine Ev.bind (a := decide ((l.length : Int) > 120)) (Ev.now _) ?_
  by_cases h1 : (l.length : Int) > 120
  · exact Ev.congr (fun k => if_pos (decide_eq_true h1)) htrue
  · refine Ev.congr (fun k => if_neg (by simpa using h1)) ?_
    by_cases h0 : l.length = 0
    · rw [show ((l.length : Int) == 0) = true by rw [beq_iff_eq]; omega]; exact htrue
    · rw [show ((l.length : Int) == 0) = false by rw [beq_eq_false_iff_ne]; omega]
      refine Ev.step (fun k => ?_) (softer_l0 (l := l) (a := a) (b := b) (by omega) (by omega) (u8_of ha) (u16_of hb) l.length 0 (by omega) (fun j hj => by omega))
      simp only [stickfullaw21_IntrinsicSofter.j0]
      rw [if_neg (by decide)]
      rfl
end Go.Proofs.Ytkegnlidlabjeaa.PureI
namespace Go.Proofs.Ytkegnlidlabjeaa.Pure
theorem IntrinsicSofter : Go.Proofs.Ytkegnlidlabjeaa.HIntr.stickfullaw21_IntrinsicSofter.Pure := Go.Proofs.Ytkegnlidlabjeaa.PureI.IntrinsicSofter
end Go.Proofs.Ytkegnlidlabjeaa.Pure
