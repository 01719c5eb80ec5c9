/- What is left of a line keeps its roles, and has no white space at an end: the plain law. No condition of its own. -/
import Derived.Test.YtkegnlidlabjeaaPureSm
import Derived.Test.YtkegnlidlabjeaaSayTrimAgain
namespace Go.Proofs.Ytkegnlidlabjeaa.Pure
set_option linter.unusedVariables false
set_option linter.unusedSimpArgs false
open Go.RowKit Go.Proofs.YtkegnlidlabjeaaW.PrintWords Go.Proofs.YtkegnlidlabjeaaW.PrintLast Go.Proofs.YtkegnlidlabjeaaW.PrintMore Go.Proofs.Ytkegnlidlabjeaa.Hand Go.Proofs.Ytkegnlidlabjeaa.HTrim
def keepZ : Bool → List S35 → List S35
  | _, [] => []
  | a, c :: s => if roleZ a c s = 1 then keepZ (a && blankB c) s else c :: keepZ (a && blankB c) s
def keptZ : Bool → List S35 → List Int
  | _, [] => []
  | a, c :: s => if roleZ a c s = 1 then keptZ (a && blankB c) s else roleZ a c s :: keptZ (a && blankB c) s
theorem role_cases (a : Bool) (c : S35) (s : List S35) : (roleZ a c s = 1 ∧ c.f0 = 1) ∨ (roleZ a c s = 2 ∧ c.f0 = 2) ∨ roleZ a c s = 0 := by
  unfold roleZ
  split
  · rename_i h; exact .inl ⟨rfl, h.1⟩
  · split
    · rename_i h; exact .inr (.inl ⟨rfl, h.1⟩)
    · exact .inr (.inr rfl)
theorem role1 {a : Bool} {c : S35} {s : List S35} (h : roleZ a c s = 1) : c.f0 = 1 := by
  rcases role_cases a c s with ⟨_, h2⟩ | ⟨h2, _⟩ | h2
  · exact h2
  · omega
  · omega
theorem keep_blank : ∀ (a : Bool) (s : List S35), (keepZ a s).all blankB = s.all blankB
  | _, [] => rfl
  | a, c :: s => by
    simp only [keepZ]
    by_cases h : roleZ a c s = 1
    · rw [if_pos h, keep_blank, List.all_cons, blank_of1 (role1 h), Bool.true_and]
    · rw [if_neg h, List.all_cons, List.all_cons, keep_blank]
theorem keep_hang : ∀ (a : Bool) (s : List S35), (keepZ a s).all hangB = s.all hangB
  | _, [] => rfl
  | a, c :: s => by
    simp only [keepZ]
    by_cases h : roleZ a c s = 1
    · have hh : hangB c = true := by unfold hangB; rw [blank_of1 (role1 h)]; rfl
      rw [if_pos h, keep_hang, List.all_cons, hh, Bool.true_and]
    · rw [if_neg h, List.all_cons, List.all_cons, keep_hang]
theorem roles_keep : ∀ (a : Bool) (s : List S35), rolesZ a (keepZ a s) = keptZ a s
  | _, [] => rfl
  | a, c :: s => by
    simp only [keepZ, keptZ]
    by_cases h : roleZ a c s = 1
    · rw [if_pos h, if_pos h, blank_of1 (role1 h), Bool.and_true]
      exact roles_keep a s
    · rw [if_neg h, if_neg h]
      simp only [rolesZ]
      rw [roles_keep]
      congr 1
      unfold roleZ
      rw [keep_blank, keep_hang]
theorem kept_ne : ∀ (a : Bool) (s : List S35), ∀ r ∈ keptZ a s, r ≠ 1
  | _, [], r, h => by simp [keptZ] at h
  | a, c :: s, r, hr => by
    simp only [keptZ] at hr
    by_cases h : roleZ a c s = 1
    · rw [if_pos h] at hr; exact kept_ne _ s r hr
    · rw [if_neg h] at hr
      rcases List.mem_cons.1 hr with rfl | hr
      · exact h
      · exact kept_ne _ s r hr
theorem keep_len2 : ∀ (a : Bool) (s : List S35), (keepZ a s).length ≤ s.length
  | _, [] => Nat.le_refl _
  | a, c :: s => by
    have := keep_len2 (a && blankB c) s
    simp only [keepZ, List.length_cons]
    split
    · omega
    · simp only [List.length_cons]; omega
theorem again_l1 (L : List S35) (hL : L.length ≤ 1000) (hn : ∀ r ∈ rolesZ true L, r ≠ 1) : ∀ (r i : Nat), i + r = L.length → Ev (fun k => stickfullaw13_TrimAgain.l1 k L (i : Int)) true := by
  intro r
  induction r with
  | zero =>
    intro i hi
    refine Ev.step (fun k => ?_) head_ev2
    simp only [stickfullaw13_TrimAgain.l1]
    rw [if_neg (by omega)]
  | succ r ih =>
    intro i hi
    by_cases h1 : L[i].f0 = 1
    · have hr := hn (rd (rolesZ true L) (i : Int)) (by rw [rd_int _ (by rw [rolesZ_len]; omega)]; exact List.getElem_mem _)
      rw [rolesZ_get true L i (by omega), Bool.true_and] at hr
      have hno : ¬ ((L.take i).all blankB = true ∨ (L.drop (i + 1)).all blankB = true) := fun h => hr (by unfold roleZ; rw [if_pos ⟨h1, h⟩])
      have z1 : ¬ ((cnt (L.take i) : Nat) : Int) = 0 := fun h => hno (.inl (blank_of_edge (cnt_zero (by omega))))
      have z2 : ¬ ((cnt (L.drop (i + 1)) : Nat) : Int) = 0 := fun h => hno (.inr (blank_of_edge (cnt_zero (by omega))))
      refine Ev.step (f := fun k => (stickfullaw13_some.f k (L.take i)).bind fun t351 => (if t351 = 0 then (some false) else ((stickfullaw13_some.f k (L.drop (i + 1))).bind fun t356 => (if t356 = 0 then (some false) else (stickfullaw13_TrimAgain.l1 k L ((i + 1 : Nat) : Int)))))) (fun k => ?_) ?_
      · simp only [stickfullaw13_TrimAgain.l1]
        have hw : wrap64 ((i : Int) + 1) = ((i + 1 : Nat) : Int) := w1 (by omega)
        rw [if_pos (by omega), if_pos (by omega), rd_nat L (by omega), if_pos h1, if_pos (by omega), hw]
        simp only [show (0 : Int) ≤ ((i + 1 : Nat) : Int) by omega, show ((i + 1 : Nat) : Int) ≤ (L.length : Int) by omega, if_true, Int.toNat_natCast]
      · refine Ev.bind (some_ev _ (by rw [List.length_take]; omega)) ?_
        refine Ev.congr (fun k => if_neg z1) ?_
        refine Ev.bind (some_ev _ (by rw [List.length_drop]; omega)) ?_
        exact Ev.congr (fun k => if_neg z2) (ih (i + 1) (by omega))
    · refine Ev.step (fun k => ?_) (ih (i + 1) (by omega))
      simp only [stickfullaw13_TrimAgain.l1]
      rw [if_pos (by omega), if_pos (by omega), rd_nat L (by omega), if_neg h1, w1 (by omega)]
theorem again_l0 (l : List S35) (hl : l.length ≤ 150) : ∀ (r i : Nat) (x4 : List S35) (x5 : List Int), i + r = l.length → x4.length ≤ i → x5.length ≤ i →
    x4 ++ keepZ ((l.take i).all blankB) (l.drop i) = keepZ true l → x5 ++ keptZ ((l.take i).all blankB) (l.drop i) = keptZ true l → Ev (fun k => stickfullaw13_TrimAgain.l0 k l (rolesZ true l) x4 x5 (i : Int)) true := by
  intro r
  have hz := rolesZ_len true l
  induction r with
  | zero =>
    intro i x4 x5 hi h4 h5 e4 e5
    rw [List.drop_of_length_le (by omega)] at e4 e5
    simp only [keepZ, keptZ, List.append_nil] at e4 e5
    have hk := keep_len2 true l
    refine Ev.step (f := fun k => (trim_Roles.f x4).bind fun t341 => ((stickfulref13_Same.f k t341 x5).bind fun t344 => (if t344 = true then (stickfullaw13_TrimAgain.l1 k x4 0) else (some false)))) (fun k => ?_) ?_
    · simp only [stickfullaw13_TrimAgain.l0]
      rw [if_neg (by omega)]
    · rw [e4, e5, roles_ev (by omega), roles_keep]
      refine Ev.bind (a := keptZ true l) (Ev.now _) ?_
      refine Ev.bind (same_ev (keptZ true l) (by rw [← roles_keep, rolesZ_len]; omega)) ?_
      refine Ev.congr (fun k => if_pos rfl) ?_
      exact again_l1 (keepZ true l) (by omega) (by rw [roles_keep]; exact kept_ne true l) (keepZ true l).length 0 (by omega)
  | succ r ih =>
    intro i x4 x5 hi h4 h5 e4 e5
    have er := rolesZ_get true l i (by omega)
    rw [Bool.true_and] at er
    have et : ((l.take (i + 1)).all blankB) = ((l.take i).all blankB && blankB l[i]) := by rw [List.take_add_one, List.all_append, List.getElem?_eq_getElem (by omega)]; simp
    rw [List.drop_eq_getElem_cons (by omega)] at e4 e5
    simp only [keepZ, keptZ] at e4 e5
    generalize hρ : roleZ ((l.take i).all blankB) l[i] (l.drop (i + 1)) = ρ at er e4 e5
    have hc := role_cases ((l.take i).all blankB) l[i] (l.drop (i + 1))
    rw [hρ] at hc
    by_cases h1 : ρ = 1
    · rw [if_pos h1] at e4 e5
      have f1 : l[i].f0 = 1 := by rcases hc with h | h | h <;> omega
      refine Ev.step (fun k => ?_) (ih (i + 1) x4 x5 (by omega) (by omega) (by omega) (by rw [et]; exact e4) (by rw [et]; exact e5))
      simp only [stickfullaw13_TrimAgain.l0]
      rw [if_pos (by omega), if_pos (by omega), if_pos (by omega), er, rd_nat l (by omega), if_pos h1, if_pos f1, if_neg (by omega), if_neg (by omega), w1 (by omega)]
    · rw [if_neg h1] at e4 e5
      have g4 : (x4 ++ [l[i]]) ++ keepZ ((l.take (i + 1)).all blankB) (l.drop (i + 1)) = keepZ true l := by rw [et, List.append_assoc]; exact e4
      have g5 : (x5 ++ [ρ]) ++ keptZ ((l.take (i + 1)).all blankB) (l.drop (i + 1)) = keptZ true l := by rw [et, List.append_assoc]; exact e5
      refine Ev.step (fun k => ?_) (ih (i + 1) (x4 ++ [l[i]]) (x5 ++ [ρ]) (by omega) (by simp; omega) (by simp; omega) g4 g5)
      simp only [stickfullaw13_TrimAgain.l0]
      rw [if_pos (by omega), if_pos (by omega), if_pos (by omega), er, rd_nat l (by omega), if_neg h1, if_pos (by omega), Option.bind_some, if_pos (by omega), Option.bind_some, w1 (by omega)]
      by_cases h2 : ρ = 2
      · have f2 : l[i].f0 = 2 := by rcases hc with h | h | h <;> omega
        rw [if_pos h2, if_pos f2, if_neg (by omega)]
      · rw [if_neg h2, if_neg (by omega)]
theorem TrimAgain : stickfullaw13_TrimAgain.Pure := by
  intro l hl
  refine Ev.rounds (r := true) ?_
  show Ev (fun k => stickfullaw13_TrimAgain.f k l) true
  unfold stickfullaw13_TrimAgain.f
  by_cases h1 : (l.length : Int) > 150
  · exact Ev.congr (fun k => if_pos h1) head_ev2
  · refine Ev.congr (fun k => if_neg h1) ?_
    rw [roles_ev (by omega)]
    refine Ev.bind (a := rolesZ true l) (Ev.now _) ?_
    refine Ev.congr (fun k => if_pos (by rw [rolesZ_len])) ?_
    exact again_l0 l (by omega) l.length 0 [] [] (by omega) (by simp) (by simp) rfl rfl
end Go.Proofs.Ytkegnlidlabjeaa.Pure
