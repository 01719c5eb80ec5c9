import Derived.Test.YtahpkfmgeifenaaPureSt2
import Derived.Test.YtahpkfmgeifenaaSayStyleNodes
set_option linter.unusedVariables false
namespace Go.Proofs.Ytahpkfmgeifenaa.Pure
open Go.RowKit Go.Proofs.YtahpkfmgeifenaaW.PrintWords Go.Proofs.YtahpkfmgeifenaaW.PrintLast Go.Proofs.YtahpkfmgeifenaaW.PrintMore Go.Proofs.Ytahpkfmgeifenaa.Hand Go.Proofs.Ytahpkfmgeifenaa.HStyle
theorem u16_of {n : Int} (h : (Lit.int .u16 n).wf = true) : 0 ≤ n ∧ n < 65536 := by
  have h2 : IntKind.u16.min ≤ n ∧ n ≤ IntKind.u16.max := by simpa [Lit.wf] using h
  have e1 : IntKind.u16.min = 0 := rfl
  have e2 : IntKind.u16.max = 65535 := rfl
  omega
/-- The styles of the first n nodes. -/
def stylesN (base : S23) (P : List Int) (D : List S26) : Nat → List S23
  | 0 => []
  | n + 1 => stylesN base P D n ++ [overN (if 0 ≤ rd P (n : Int) then rd_T23 (stylesN base P D n) (rd P (n : Int)) else base) (rd_T26 D (n : Int)).f0 (rd_T26 D (n : Int)).f1 8]
theorem stylesN_length (base : S23) (P : List Int) (D : List S26) : ∀ n, (stylesN base P D n).length = n
  | 0 => rfl
  | n + 1 => by simp [stylesN, stylesN_length base P D n]
/-- One node's. -/
def st (base : S23) (P : List Int) (D : List S26) (i : Nat) : S23 := rd_T23 (stylesN base P D (i + 1)) (i : Int)
theorem stylesN_get (base : S23) (P : List Int) (D : List S26) {i : Nat} : ∀ {n : Nat}, i < n → rd_T23 (stylesN base P D n) (i : Int) = st base P D i
  | n + 1, h => by
    by_cases hi : i = n
    · subst hi; rfl
    · rw [← stylesN_get base P D (i := i) (n := n) (by omega)]
      unfold rd_T23
      rw [stylesN, Int.toNat_natCast, List.getD_eq_getElem?_getD, List.getD_eq_getElem?_getD, List.getElem?_append_left (by rw [stylesN_length]; omega)]
theorem st_eq (base : S23) (P : List Int) (D : List S26) (n : Nat) : st base P D n = overN (if 0 ≤ rd P (n : Int) then rd_T23 (stylesN base P D n) (rd P (n : Int)) else base) (rd_T26 D (n : Int)).f0 (rd_T26 D (n : Int)).f1 8 := by
  unfold st
  rw [stylesN]
  generalize overN _ _ _ 8 = z
  unfold rd_T23
  rw [Int.toNat_natCast, List.getD_eq_getElem?_getD, List.getElem?_append_right (by rw [stylesN_length]; omega), stylesN_length]
  simp
/-- Parents that stand ahead. -/
def goodP (P : List Int) (j : Nat) : Prop := -1 ≤ rd P (j : Int) ∧ rd P (j : Int) < (j : Int)
instance (P : List Int) (j : Nat) : Decidable (goodP P j) := inferInstanceAs (Decidable (_ ∧ _))
theorem st_up {base : S23} {P : List Int} {D : List S26} {n : Nat} (hg : goodP P n) (h : 0 ≤ rd P (n : Int)) : st base P D n = overN (st base P D (rd P (n : Int)).toNat) (rd_T26 D (n : Int)).f0 (rd_T26 D (n : Int)).f1 8 := by
  rw [st_eq, if_pos h]
  have h2 := hg.2
  obtain ⟨m, hm⟩ := Int.eq_ofNat_of_zero_le h
  rw [hm] at h2 ⊢
  rw [stylesN_get base P D (i := m) (by omega)]
  rfl
theorem st_top {base : S23} {P : List Int} {D : List S26} {n : Nat} (h : ¬ 0 ≤ rd P (n : Int)) : st base P D n = overN base (rd_T26 D (n : Int)).f0 (rd_T26 D (n : Int)).f1 8 := by
  rw [st_eq, if_neg h]
theorem over_one (c x : S23) (d : Int) (b : S23) {j : Nat} (hj : j < 8) : oneP c (overN x d b 8) j = if hasP d j then oneP c b j else oneP c x j := by
  have hk8 : j = 0 ∨ j = 1 ∨ j = 2 ∨ j = 3 ∨ j = 4 ∨ j = 5 ∨ j = 6 ∨ j = 7 := by omega
  rcases hk8 with rfl | rfl | rfl | rfl | rfl | rfl | rfl | rfl

  · simp only [oneP, over_f0]
    by_cases h : hasP d 0
    · simp only [if_pos h]
    · simp only [if_neg h]
  · simp only [oneP, over_f1]
    by_cases h : hasP d 1
    · simp only [if_pos h]
    · simp only [if_neg h]
  · simp only [oneP, over_f2]
    by_cases h : hasP d 2
    · simp only [if_pos h]
    · simp only [if_neg h]
  · simp only [oneP, over_f3]
    by_cases h : hasP d 3
    · simp only [if_pos h]
    · simp only [if_neg h]
  · simp only [oneP, over_f4]
    by_cases h : hasP d 4
    · simp only [if_pos h]
    · simp only [if_neg h]
  · simp only [oneP, over_f5]
    by_cases h : hasP d 5
    · simp only [if_pos h]
    · simp only [if_neg h]
  · simp only [oneP, over_f6]
    by_cases h : hasP d 6
    · simp only [if_pos h]
    · simp only [if_neg h]
  · simp only [oneP, over_f7, over_f8]
    by_cases h : hasP d 7
    · simp only [if_pos h]
    · simp only [if_neg h]
/-- The first parts of t, the others of base. -/
def pf (base t : S23) : Nat → S23
  | 0 => base
  | j + 1 => oneP (pf base t j) t j
theorem pf_keep (base t : S23) {j : Nat} (hj : j < 8) : oneP (pf base t j) base j = pf base t j := by
  have hk8 : j = 0 ∨ j = 1 ∨ j = 2 ∨ j = 3 ∨ j = 4 ∨ j = 5 ∨ j = 6 ∨ j = 7 := by omega
  rcases hk8 with rfl | rfl | rfl | rfl | rfl | rfl | rfl | rfl <;> rfl
theorem pf_all (base t : S23) : pf base t 8 = t := by
  obtain ⟨t0, t1, t2, t3, t4, t5, t6, t7, t8⟩ := t
  simp [pf, oneP]
def okD (D : List S26) : Prop := ∀ i : Nat, i < D.length → 0 ≤ (rd_T26 D (i : Int)).f0 ∧ (rd_T26 D (i : Int)).f0 < 65536
theorem climb {base : S23} {P : List Int} {D : List S26} (hlen : P.length = D.length) (hsm : D.length ≤ 200) (hD : okD D) (hP : ∀ j, j < P.length → goodP P j) {n j : Nat} (hj : j < 8) {c T : S23} (hc : oneP c base j = c) {R : Int × Int × Int × Int × Int × Int × Int × Int × Int}
    (hE : Ev (fun k => stickfulref06_At.l0 k P D (n : Int) ((j + 1 : Nat) : Int) T.f0 T.f1 T.f2 T.f3 T.f4 T.f5 T.f6 T.f7 T.f8) R) : ∀ (b m : Nat), m < b → m < D.length → oneP c (st base P D m) j = T → Ev (fun k => stickfulref06_At.l1 k P D (n : Int) (j : Int) (m : Int) c.f0 c.f1 c.f2 c.f3 c.f4 c.f5 c.f6 c.f7 c.f8) R := by
  have e9 : wrap64 ((j : Int) + 1) = ((j + 1 : Nat) : Int) := by rw [w64 (by omega) (by omega)]; rfl
  intro b
  induction b with
  | zero => intro m hm; omega
  | succ b ih =>
    intro m hmb hm hT
    have hd := hD m hm
    have hg := hP m (by omega)
    by_cases hs : hasP (rd_T26 D (m : Int)).f0 j
    · have hT2 : T = oneP c (rd_T26 D (m : Int)).f1 j := by
        rw [← hT, st_eq, over_one _ _ _ _ hj, if_pos hs]
      subst hT2
      refine Ev.step (fun k => ?_) hE
      simp only [stickfulref06_At.l1]
      rw [if_pos (by omega), if_pos (by omega), if_pos (by omega), says_eq hd.1 hd.2 _ hj, one_eq _ _ hj, e9]
      simp only [Option.bind_some]
      rw [if_pos (decide_eq_true hs)]
      rfl
    · by_cases hu : 0 ≤ rd P (m : Int)
      · have h2 := hg.2
        obtain ⟨m', hm'⟩ := Int.eq_ofNat_of_zero_le hu
        have hT2 : oneP c (st base P D m') j = T := by
          rw [← hT, st_up hg hu, over_one _ _ _ _ hj, if_neg hs, hm']
          rfl
        refine Ev.step (fun k => ?_) (ih m' (by omega) (by omega) hT2)
        simp only [stickfulref06_At.l1]
        rw [if_pos (by omega), if_pos (by omega), if_pos (by omega), says_eq hd.1 hd.2 _ hj]
        simp only [Option.bind_some]
        rw [if_neg (by simpa using hs), if_pos (by omega), hm']
      · have hT2 : T = c := by rw [← hT, st_top hu, over_one _ _ _ _ hj, if_neg hs, hc]
        subst hT2
        have h1 : rd P (m : Int) = -1 := by have := hg.1; omega
        refine Ev.step (f := fun k => stickfulref06_At.l1 k P D (n : Int) (j : Int) (-1) T.f0 T.f1 T.f2 T.f3 T.f4 T.f5 T.f6 T.f7 T.f8) (fun k => ?_) (Ev.step (fun k => ?_) hE)
        · simp only [stickfulref06_At.l1]
          rw [if_pos (by omega), if_pos (by omega), if_pos (by omega), says_eq hd.1 hd.2 _ hj]
          simp only [Option.bind_some]
          rw [if_neg (by simpa using hs), if_pos (by omega), h1]
        · simp only [stickfulref06_At.l1]
          rw [if_neg (by decide), e9]
theorem refAt {base : S23} {P : List Int} {D : List S26} (hlen : P.length = D.length) (hsm : D.length ≤ 200) (hD : okD D) (hP : ∀ j, j < P.length → goodP P j) {n : Nat} (hn : n < D.length) : Ev (fun k => stickfulref06_At.f k base.f0 base.f1 base.f2 base.f3 base.f4 base.f5 base.f6 base.f7 base.f8 P D (n : Int)) (st base P D n).tup := by
  have key : ∀ (r j : Nat), j + r = 8 → Ev (fun k => stickfulref06_At.l0 k P D (n : Int) (j : Int) (pf base (st base P D n) j).f0 (pf base (st base P D n) j).f1 (pf base (st base P D n) j).f2 (pf base (st base P D n) j).f3 (pf base (st base P D n) j).f4 (pf base (st base P D n) j).f5 (pf base (st base P D n) j).f6 (pf base (st base P D n) j).f7 (pf base (st base P D n) j).f8) (st base P D n).tup := by
    intro r
    induction r with
    | zero =>
      intro j hj
      obtain rfl : j = 8 := by omega
      refine Ev.step (f := fun _ => some (st base P D n).tup) (fun k => ?_) (Ev.now _)
      simp only [stickfulref06_At.l0]
      rw [if_neg (by omega), pf_all]
      rfl
    | succ r ih =>
      intro j hj
      refine Ev.step (fun k => ?_) (climb hlen hsm hD hP (by omega) (pf_keep base (st base P D n) (by omega)) (ih (j + 1) (by omega)) (n + 1) n (by omega) hn rfl)
      simp only [stickfulref06_At.l0]
      rw [if_pos (by omega)]
  exact key 8 0 (by omega)

theorem ite_same {α : Type} {p q : Prop} {_ : Decidable p} {_ : Decidable q} {a b : α} (h : p ↔ q) : (if p then a else b) = if q then a else b := by
  by_cases hp : p
  · rw [if_pos hp, if_pos (h.1 hp)]
  · rw [if_neg hp, if_neg (fun hq => hp (h.2 hq))]
open Classical in
noncomputable def ansD (base : S23) (P : List Int) (D : List S26) (i : Nat) : List S23 × Int := if ∀ j, i ≤ j → j < D.length → declE (rd_T26 D (j : Int)).f0 (rd_T26 D (j : Int)).f1 = 0 then (stylesN base P D D.length, 0) else ([], 60)
open Classical in
noncomputable def ansP (base : S23) (P : List Int) (D : List S26) (i : Nat) : List S23 × Int := if ∀ j, i ≤ j → j < P.length → goodP P j then (if mayAll base = true then ansD base P D 0 else ([], 60)) else ([], 2)
theorem ansD_step {base : S23} {P : List Int} {D : List S26} {i : Nat} (h : declE (rd_T26 D (i : Int)).f0 (rd_T26 D (i : Int)).f1 = 0) : ansD base P D i = ansD base P D (i + 1) := by
  unfold ansD
  have e : (∀ j, i ≤ j → j < D.length → declE (rd_T26 D (j : Int)).f0 (rd_T26 D (j : Int)).f1 = 0) ↔ ∀ j, i + 1 ≤ j → j < D.length → declE (rd_T26 D (j : Int)).f0 (rd_T26 D (j : Int)).f1 = 0 :=
    ⟨fun hh j h1 h2 => hh j (by omega) h2, fun hh j h1 h2 => by
      by_cases hj : j = i
      · subst hj; exact h
      · exact hh j (by omega) h2⟩
  exact ite_same e
theorem ansD_bad {base : S23} {P : List Int} {D : List S26} {i : Nat} (hi : i < D.length) (h : ¬ declE (rd_T26 D (i : Int)).f0 (rd_T26 D (i : Int)).f1 = 0) : ansD base P D i = ([], 60) := if_neg (fun hh => h (hh i (Nat.le_refl _) hi))
theorem ansD_end {base : S23} {P : List Int} {D : List S26} : ansD base P D D.length = (stylesN base P D D.length, 0) := if_pos (fun j h1 h2 => by omega)
theorem ansP_step {base : S23} {P : List Int} {D : List S26} {i : Nat} (h : goodP P i) : ansP base P D i = ansP base P D (i + 1) := by
  unfold ansP
  have e : (∀ j, i ≤ j → j < P.length → goodP P j) ↔ ∀ j, i + 1 ≤ j → j < P.length → goodP P j :=
    ⟨fun hh j h1 h2 => hh j (by omega) h2, fun hh j h1 h2 => by
      by_cases hj : j = i
      · subst hj; exact h
      · exact hh j (by omega) h2⟩
  exact ite_same e
theorem ansP_bad {base : S23} {P : List Int} {D : List S26} {i : Nat} (hi : i < P.length) (h : ¬ goodP P i) : ansP base P D i = ([], 2) := if_neg (fun hh => h (hh i (Nat.le_refl _) hi))
theorem ansP_end {base : S23} {P : List Int} {D : List S26} : ansP base P D P.length = if mayAll base = true then ansD base P D 0 else ([], 60) := if_pos (fun j h1 h2 => by omega)
theorem tup_mk (s : S23) : (⟨s.tup.1, s.tup.2.1, s.tup.2.2.1, s.tup.2.2.2.1, s.tup.2.2.2.2.1, s.tup.2.2.2.2.2.1, s.tup.2.2.2.2.2.2.1, s.tup.2.2.2.2.2.2.2.1, s.tup.2.2.2.2.2.2.2.2⟩ : S23) = s := rfl
theorem over_eq (s : S23) (d : Int) (b : S23) : style_over.f s.f0 s.f1 s.f2 s.f3 s.f4 s.f5 s.f6 s.f7 s.f8 d b.f0 b.f1 b.f2 b.f3 b.f4 b.f5 b.f6 b.f7 b.f8 = some (overN s d b 8).tup := rfl
section
variable {base : S23} {P : List Int} {D : List S26} (hlen : P.length = D.length) (hsm : D.length ≤ 200) (hD : okD D)
include hlen hsm
theorem sty_l1 (hP : ∀ j, j < P.length → goodP P j) : ∀ (r i : Nat), i + r = D.length → Ev (fun k => style_Styles.l1 k P (stylesN base P D i) D (D.length : Int) (i : Int) base.f0 base.f1 base.f2 base.f3 base.f4 base.f5 base.f6 base.f7 base.f8) (ansD base P D i) := by
  intro r
  induction r with
  | zero =>
    intro i hi
    obtain rfl : i = D.length := by omega
    rw [ansD_end]
    refine Ev.step (f := fun _ => some (stylesN base P D D.length, (0 : Int))) (fun k => ?_) (Ev.now _)
    simp only [style_Styles.l1]
    rw [if_neg (by omega)]
  | succ r ih =>
    intro i hi
    have e9 : wrap64 ((i : Int) + 1) = ((i + 1 : Nat) : Int) := by rw [w64 (by omega) (by omega)]; rfl
    have hg := hP i (by omega)
    by_cases hd : declE (rd_T26 D (i : Int)).f0 (rd_T26 D (i : Int)).f1 = 0
    · rw [ansD_step hd]
      refine Ev.step (fun k => ?_) (ih (i + 1) (by omega))
      have hl := stylesN_length base P D i
      simp only [style_Styles.l1]
      rw [if_pos (by omega), if_pos (by omega), if_pos (by omega), decl_eq]
      simp only [Option.bind_some]
      rw [if_pos hd, if_pos (by omega)]
      by_cases hu : 0 ≤ rd P (i : Int)
      · have h2 := hg.2
        rw [if_pos hu, if_pos hu, if_pos (by omega), over_eq]
        simp only [Option.bind_some]
        rw [if_pos (by omega), tup_mk, e9, stylesN, if_pos hu]
      · rw [if_neg hu, over_eq]
        simp only [Option.bind_some]
        rw [if_pos (by omega), tup_mk, e9, stylesN, if_neg hu]
    · rw [ansD_bad (by omega) hd]
      refine Ev.step (f := fun _ => some (([] : List S23), (60 : Int))) (fun k => ?_) (Ev.now _)
      simp only [style_Styles.l1]
      rw [if_pos (by omega), if_pos (by omega), if_pos (by omega), decl_eq]
      simp only [Option.bind_some]
      rw [if_neg hd]
theorem sty_l0 : ∀ (r i : Nat), i + r = P.length → (∀ j, j < i → goodP P j) → Ev (fun k => style_Styles.l0 k P D P (P.length : Int) (i : Int) base.f0 base.f1 base.f2 base.f3 base.f4 base.f5 base.f6 base.f7 base.f8) (ansP base P D i) := by
  intro r
  induction r with
  | zero =>
    intro i hi hP
    obtain rfl : i = P.length := by omega
    rw [ansP_end]
    have e : style_Check.f base.f0 base.f1 base.f2 base.f3 base.f4 base.f5 base.f6 base.f7 base.f8 = some (if mayAll base = true then 0 else 60) := rfl
    by_cases hm : mayAll base = true
    · rw [if_pos hm]
      refine Ev.step (fun k => ?_) (sty_l1 hlen hsm hP D.length 0 (by omega))
      simp only [style_Styles.l0]
      rw [if_neg (by omega), e, if_pos hm]
      simp only [Option.bind_some]
      rw [if_pos trivial]
      rfl
    · rw [if_neg hm]
      refine Ev.step (f := fun _ => some (([] : List S23), (60 : Int))) (fun k => ?_) (Ev.now _)
      simp only [style_Styles.l0]
      rw [if_neg (by omega), e, if_neg hm]
      simp
  | succ r ih =>
    intro i hi hP
    have e9 : wrap64 ((i : Int) + 1) = ((i + 1 : Nat) : Int) := by rw [w64 (by omega) (by omega)]; rfl
    by_cases hg : goodP P i
    · rw [ansP_step hg]
      have h1 := hg.1
      have h2 := hg.2
      refine Ev.step (fun k => ?_) (ih (i + 1) (by omega) (fun j hj => by
        by_cases hji : j = i
        · subst hji; exact hg
        · exact hP j (by omega)))
      simp only [style_Styles.l0]
      rw [if_pos (by omega), if_pos (by omega), if_pos (by omega), if_neg (by omega), if_neg (by omega), e9]
    · rw [ansP_bad (by omega) hg]
      refine Ev.step (f := fun _ => some (([] : List S23), (2 : Int))) (fun k => ?_) (Ev.now _)
      simp only [style_Styles.l0]
      rw [if_pos (by omega), if_pos (by omega), if_pos (by omega)]
      by_cases h1 : rd P (i : Int) < -1
      · rw [if_pos h1]
      · rw [if_neg h1, if_pos (by unfold goodP at hg; omega)]
include hD
theorem ref_l2 (hP : ∀ j, j < P.length → goodP P j) : ∀ (r i : Nat), i + r = D.length → Ev (fun k => stickfulref06_Styles.l2 k P D (stylesN base P D i) (i : Int) base.f0 base.f1 base.f2 base.f3 base.f4 base.f5 base.f6 base.f7 base.f8) (stylesN base P D D.length, 0) := by
  intro r
  induction r with
  | zero =>
    intro i hi
    obtain rfl : i = D.length := by omega
    refine Ev.step (f := fun _ => some (stylesN base P D D.length, (0 : Int))) (fun k => ?_) (Ev.now _)
    simp only [stickfulref06_Styles.l2]
    rw [if_neg (by omega)]
  | succ r ih =>
    intro i hi
    have hl := stylesN_length base P D i
    have e9 : wrap64 ((i : Int) + 1) = ((i + 1 : Nat) : Int) := by rw [w64 (by omega) (by omega)]; rfl
    refine Ev.step (f := fun k => (stickfulref06_At.f k base.f0 base.f1 base.f2 base.f3 base.f4 base.f5 base.f6 base.f7 base.f8 P D (i : Int)).bind fun t => stickfulref06_Styles.l2 k P D (stylesN base P D i ++ [(⟨t.1, t.2.1, t.2.2.1, t.2.2.2.1, t.2.2.2.2.1, t.2.2.2.2.2.1, t.2.2.2.2.2.2.1, t.2.2.2.2.2.2.2.1, t.2.2.2.2.2.2.2.2⟩ : S23)]) ((i + 1 : Nat) : Int) base.f0 base.f1 base.f2 base.f3 base.f4 base.f5 base.f6 base.f7 base.f8) (fun k => ?_) (Ev.bind (refAt hlen hsm hD hP (by omega)) ?_)
    · simp only [stickfulref06_Styles.l2]
      rw [if_pos (by omega)]
      simp only [if_pos (show (stylesN base P D i).length < 2932031007402 by omega), e9]
    · have := ih (i + 1) (by omega)
      rw [stylesN, ← st_eq] at this
      exact this
theorem ref_l1 (hP : ∀ j, j < P.length → goodP P j) : ∀ (r i : Nat), i + r = D.length → Ev (fun k => stickfulref06_Styles.l1 k P D (i : Int) base.f0 base.f1 base.f2 base.f3 base.f4 base.f5 base.f6 base.f7 base.f8) (ansD base P D i) := by
  intro r
  induction r with
  | zero =>
    intro i hi
    obtain rfl : i = D.length := by omega
    rw [ansD_end]
    refine Ev.step (fun k => ?_) (ref_l2 hlen hsm hD hP D.length 0 (by omega))
    simp only [stickfulref06_Styles.l1]
    rw [if_neg (by omega)]
    rfl
  | succ r ih =>
    intro i hi
    have hd := hD i (by omega)
    have e9 : wrap64 ((i : Int) + 1) = ((i + 1 : Nat) : Int) := by rw [w64 (by omega) (by omega)]; rfl
    refine Ev.step (f := fun k => (stickfulref06_CheckDecl.f k (rd_T26 D (i : Int)).f0 (rd_T26 D (i : Int)).f1.f0 (rd_T26 D (i : Int)).f1.f1 (rd_T26 D (i : Int)).f1.f2 (rd_T26 D (i : Int)).f1.f3 (rd_T26 D (i : Int)).f1.f4 (rd_T26 D (i : Int)).f1.f5 (rd_T26 D (i : Int)).f1.f6 (rd_T26 D (i : Int)).f1.f7 (rd_T26 D (i : Int)).f1.f8).bind fun t => if t = 0 then stickfulref06_Styles.l1 k P D ((i + 1 : Nat) : Int) base.f0 base.f1 base.f2 base.f3 base.f4 base.f5 base.f6 base.f7 base.f8 else some ([], 60)) (fun k => ?_) (Ev.bind (refDecl hd.1 hd.2 _) ?_)
    · simp only [stickfulref06_Styles.l1]
      rw [if_pos (by omega), if_pos (by omega), e9]
    · by_cases h : declE (rd_T26 D (i : Int)).f0 (rd_T26 D (i : Int)).f1 = 0
      · rw [ansD_step h]
        exact Ev.congr (fun k => if_pos h) (ih (i + 1) (by omega))
      · rw [ansD_bad (by omega) h]
        exact Ev.congr (fun k => if_neg h) (Ev.now _)
theorem ref_l0 : ∀ (r i : Nat), i + r = P.length → (∀ j, j < i → goodP P j) → Ev (fun k => stickfulref06_Styles.l0 k P D (i : Int) base.f0 base.f1 base.f2 base.f3 base.f4 base.f5 base.f6 base.f7 base.f8) (ansP base P D i) := by
  intro r
  induction r with
  | zero =>
    intro i hi hP
    obtain rfl : i = P.length := by omega
    rw [ansP_end]
    by_cases hm : mayAll base = true
    · rw [if_pos hm]
      refine Ev.step (fun k => ?_) (ref_l1 hlen hsm hD hP D.length 0 (by omega))
      simp only [stickfulref06_Styles.l0]
      rw [if_neg (by omega), refCheck, if_pos hm]
      simp only [Option.bind_some]
      rw [if_pos trivial]
      rfl
    · rw [if_neg hm]
      refine Ev.step (f := fun _ => some (([] : List S23), (60 : Int))) (fun k => ?_) (Ev.now _)
      simp only [stickfulref06_Styles.l0]
      rw [if_neg (by omega), refCheck, if_neg hm]
      simp
  | succ r ih =>
    intro i hi hP
    have e9 : wrap64 ((i : Int) + 1) = ((i + 1 : Nat) : Int) := by rw [w64 (by omega) (by omega)]; rfl
    by_cases hg : goodP P i
    · rw [ansP_step hg]
      have h1 := hg.1
      have h2 := hg.2
      refine Ev.step (fun k => ?_) (ih (i + 1) (by omega) (fun j hj => by
        by_cases hji : j = i
        · subst hji; exact hg
        · exact hP j (by omega)))
      simp only [stickfulref06_Styles.l0]
      rw [if_pos (by omega), if_pos (by omega), if_neg (by omega), if_neg (by omega), e9]
    · rw [ansP_bad (by omega) hg]
      refine Ev.step (f := fun _ => some (([] : List S23), (2 : Int))) (fun k => ?_) (Ev.now _)
      simp only [stickfulref06_Styles.l0]
      rw [if_pos (by omega), if_pos (by omega)]
      by_cases h1 : rd P (i : Int) < -1
      · rw [if_pos h1]
      · rw [if_neg h1, if_pos (by unfold goodP at hg; omega)]
end
theorem same_l0 (l : List S23) (hl : l.length ≤ 1000) : ∀ (r i : Nat), i + r = l.length → Ev (fun k => stickfulref06_Same.l0 k l l (i : Int)) true := by
  intro r
  induction r with
  | zero =>
    intro i hi
    refine Ev.step (f := fun _ => some true) (fun k => ?_) (Ev.now _)
    simp only [stickfulref06_Same.l0]
    rw [if_neg (by omega)]
  | succ r ih =>
    intro i hi
    have e9 : wrap64 ((i : Int) + 1) = ((i + 1 : Nat) : Int) := by rw [w64 (by omega) (by omega)]; rfl
    refine Ev.step (fun k => ?_) (ih (i + 1) (by omega))
    simp only [stickfulref06_Same.l0]
    rw [if_pos (by omega), if_pos (by omega), if_pos (by omega), if_neg (by simp), e9]
theorem refSame (l : List S23) (hl : l.length ≤ 1000) : Ev (fun k => stickfulref06_Same.f k l l) true := by
  refine Ev.congr (fun k => ?_) (same_l0 l hl l.length 0 (by omega))
  unfold stickfulref06_Same.f
  rw [if_pos rfl]
  rfl
theorem ansP_len {base : S23} {P : List Int} {D : List S26} (hsm : D.length ≤ 200) : (ansP base P D 0).1.length ≤ 1000 := by
  unfold ansP ansD
  split
  · split
    · split
      · rw [stylesN_length]; omega
      · simp
    · simp
  · simp
theorem StyleNodes : stickfullaw06_StyleNodes.Pure := by
  intro base P D hs hP0 hD0
  refine Ev.rounds (r := true) ?_
  show Ev (fun k => stickfullaw06_StyleNodes.f k base.f0 base.f1 base.f2 base.f3 base.f4 base.f5 base.f6 base.f7 base.f8 P D) true
  have hD : okD D := fun i hi => by
    have hmem : rd_T26 D (i : Int) ∈ D := by
      unfold rd_T26
      rw [Int.toNat_natCast]
      simp [List.getD, hi]
    exact u16_of (hD0.2.2 _ hmem).1
  have hend : ∀ z : Bool, (z = false → P.length ≤ 200 ∧ D.length ≤ 200) → Ev (fun k => stickfullaw06_StyleNodes.j0 k P D z base.f0 base.f1 base.f2 base.f3 base.f4 base.f5 base.f6 base.f7 base.f8) true := by
    intro z hz
    cases z with
    | true =>
      refine Ev.step (fun k => ?_) head_ev2
      simp only [stickfullaw06_StyleNodes.j0]
      rw [if_pos trivial]
    | false =>
      obtain ⟨h1, h2⟩ := hz rfl
      by_cases hlen : P.length = D.length
      · refine Ev.step (f := fun k => (style_Styles.f k base.f0 base.f1 base.f2 base.f3 base.f4 base.f5 base.f6 base.f7 base.f8 P D).bind fun a => (stickfulref06_Styles.f k base.f0 base.f1 base.f2 base.f3 base.f4 base.f5 base.f6 base.f7 base.f8 P D).bind fun b => (stickfulref06_Same.f k a.1 b.1).bind fun t => if t = true then (if a.2 = b.2 then (stickfullaw06_head.f k).bind fun t => some t else some false) else some false) (fun k => ?_) ?_
        · simp only [stickfullaw06_StyleNodes.j0]
          rw [if_neg (by decide)]
        · have e1 : Ev (fun k => style_Styles.f k base.f0 base.f1 base.f2 base.f3 base.f4 base.f5 base.f6 base.f7 base.f8 P D) (ansP base P D 0) := by
            refine Ev.congr (fun k => ?_) (sty_l0 hlen h2 P.length 0 (by omega) (fun j hj => by omega))
            unfold style_Styles.f
            rw [if_pos (by omega)]
            rfl
          have e2 : Ev (fun k => stickfulref06_Styles.f k base.f0 base.f1 base.f2 base.f3 base.f4 base.f5 base.f6 base.f7 base.f8 P D) (ansP base P D 0) := by
            refine Ev.congr (fun k => ?_) (ref_l0 hlen h2 hD P.length 0 (by omega) (fun j hj => by omega))
            unfold stickfulref06_Styles.f
            rw [if_pos (by omega)]
            rfl
          refine Ev.bind e1 (Ev.bind e2 (Ev.bind (refSame _ (ansP_len h2)) (Ev.congr (fun k => ?_) head_ev2)))
          rw [if_pos rfl, if_pos rfl]
      · refine Ev.step (f := fun k => (stickfulref06_Same.f k [] []).bind fun t => if t = true then (stickfullaw06_head.f k).bind fun t => some t else some false) (fun k => ?_) (Ev.bind (refSame [] (by simp)) (Ev.congr (fun k => if_pos rfl) head_ev2))
        simp only [stickfullaw06_StyleNodes.j0]
        unfold style_Styles.f stickfulref06_Styles.f
        rw [if_neg (by decide), if_neg (by omega), if_neg (by omega)]
        simp
  unfold stickfullaw06_StyleNodes.f
  by_cases h : (P.length : Int) > 200
  · exact Ev.congr (fun k => if_pos h) (hend true (fun hc => by cases hc))
  · refine Ev.congr (fun k => if_neg h) (hend _ (fun hz => ?_))
    have := of_decide_eq_false hz
    omega
end Go.Proofs.Ytahpkfmgeifenaa.Pure
