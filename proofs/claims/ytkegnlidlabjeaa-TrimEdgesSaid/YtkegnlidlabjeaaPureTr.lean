/- Plain laws of chapter 13: what the roles of cells are, told from the list alone. No condition of its own. -/
import Derived.Test.YtkegnlidlabjeaaPureTb2
namespace Go.Proofs.Ytkegnlidlabjeaa.Pure
set_option linter.unusedVariables false
set_option linter.unusedSimpArgs false
open Go.RowKit Go.Proofs.YtkegnlidlabjeaaW.PrintWords Go.Proofs.YtkegnlidlabjeaaW.PrintLast Go.Proofs.YtkegnlidlabjeaaW.PrintMore Go.Proofs.Ytkegnlidlabjeaa.Hand Go.Proofs.Ytkegnlidlabjeaa.HTrim
/-- The role of a cell behind a prefix that is blank or not, ahead of a suffix. -/
def roleZ (a : Bool) (c : S35) (s : List S35) : Int :=
  if c.f0 = 1 ∧ (a = true ∨ s.all blankB = true) then 1 else if c.f0 = 2 ∧ s.all hangB = true then 2 else 0
def rolesZ : Bool → List S35 → List Int
  | _, [] => []
  | a, c :: s => roleZ a c s :: rolesZ (a && blankB c) s
theorem rolesZ_len : ∀ (a : Bool) (l : List S35), (rolesZ a l).length = l.length
  | _, [] => rfl
  | a, c :: s => by simp [rolesZ, rolesZ_len (a && blankB c) s]
theorem rd_nat (l : List S35) {i : Nat} (hi : i < l.length) : rd_T35 l (i : Int) = l[i] := by
  unfold rd_T35
  simp [List.getD, hi]
theorem rolesZ_get : ∀ (a : Bool) (l : List S35) (i : Nat) (hi : i < l.length), rd (rolesZ a l) (i : Int) = roleZ (a && (l.take i).all blankB) l[i] (l.drop (i + 1))
  | _, [], i, hi => by simp at hi
  | a, c :: s, 0, hi => by simp [rolesZ, rd]
  | a, c :: s, i + 1, hi => by
    have h := rolesZ_get (a && blankB c) s i (by simpa using hi)
    simp only [rolesZ]
    have e : rd (roleZ a c s :: rolesZ (a && blankB c) s) ((i + 1 : Nat) : Int) = rd (rolesZ (a && blankB c) s) (i : Int) := by
      unfold rd
      simp [List.getD]
    rw [e, h]
    simp [List.take_succ_cons, Bool.and_assoc]
/-- The ways from the front, and from the back. -/
theorem way_up (l : List S35) (p : S35 → Bool) : ∀ (n : Nat) (i : Int), 0 ≤ i → (l.length : Int) - i < n → ∀ j : Int, j ∈ wayL l p 1 n i ↔ i ≤ j ∧ j < (l.length : Int) ∧ ∀ m : Int, i ≤ m → m ≤ j → p (rd_T35 l m) = true
  | 0, i, h0, hn, j => by
    simp only [wayL, List.not_mem_nil, false_iff]
    rintro ⟨h1, h2, h3⟩
    omega
  | n + 1, i, h0, hn, j => by
    have ih := way_up l p n (i + 1) (by omega) (by omega) j
    simp only [wayL]
    by_cases hc : 0 ≤ i ∧ i < (l.length : Int) ∧ p (rd_T35 l i) = true
    · rw [if_pos hc, List.mem_cons, ih]
      constructor
      · rintro (rfl | ⟨h1, h2, h3⟩)
        · exact ⟨by omega, hc.2.1, fun m h4 h5 => by rw [show m = j by omega]; exact hc.2.2⟩
        · exact ⟨by omega, h2, fun m h4 h5 => by
            by_cases hm : m = i
            · rw [hm]; exact hc.2.2
            · exact h3 m (by omega) h5⟩
      · rintro ⟨h1, h2, h3⟩
        by_cases hj : j = i
        · exact .inl hj
        · exact .inr ⟨by omega, h2, fun m h4 h5 => h3 m (by omega) h5⟩
    · rw [if_neg hc]
      simp only [List.not_mem_nil, false_iff]
      rintro ⟨h1, h2, h3⟩
      exact hc ⟨h0, by omega, h3 i (by omega) (by omega)⟩
theorem way_down (l : List S35) (p : S35 → Bool) : ∀ (n : Nat) (i : Int), i < (l.length : Int) → -1 ≤ i → i + 1 < n → ∀ j : Int, j ∈ wayL l p (-1) n i ↔ 0 ≤ j ∧ j ≤ i ∧ ∀ m : Int, j ≤ m → m ≤ i → p (rd_T35 l m) = true
  | 0, i, h0, h1, hn, j => by omega
  | n + 1, i, h0, h1, hn, j => by
    simp only [wayL]
    by_cases hc : 0 ≤ i ∧ i < (l.length : Int) ∧ p (rd_T35 l i) = true
    · have ih := way_down l p n (i + -1) (by omega) (by omega) (by omega) j
      rw [if_pos hc, List.mem_cons, ih]
      constructor
      · rintro (rfl | ⟨h1, h2, h3⟩)
        · exact ⟨hc.1, by omega, fun m h4 h5 => by rw [show m = j by omega]; exact hc.2.2⟩
        · exact ⟨h1, by omega, fun m h4 h5 => by
            by_cases hm : m = i
            · rw [hm]; exact hc.2.2
            · exact h3 m h4 (by omega)⟩
      · rintro ⟨h1, h2, h3⟩
        by_cases hj : j = i
        · exact .inl hj
        · exact .inr ⟨h1, by omega, fun m h4 h5 => h3 m h4 (by omega)⟩
    · rw [if_neg hc]
      simp only [List.not_mem_nil, false_iff]
      rintro ⟨h1, h2, h3⟩
      exact hc ⟨by omega, h0, h3 i (by omega) (by omega)⟩
theorem markL_len (l : List S35) (kind role : Int) : ∀ (is out : List Int), (markL l kind role is out).length = out.length
  | [], out => rfl
  | i :: is, out => by
    have := markL_len l kind role is (if (rd_T35 l i).f0 = kind then out.set i.toNat role else out)
    unfold markL at this ⊢
    rw [List.foldl_cons, this]
    split <;> simp
theorem rd_set (out : List Int) (i j : Nat) (v : Int) (hj : j < out.length) : rd (out.set i v) (j : Int) = if i = j then v else rd out (j : Int) := by
  unfold rd
  simp only [Int.toNat_natCast, List.getD_eq_getElem?_getD, List.getElem?_set]
  by_cases h : i = j
  · subst h; simp [hj]
  · simp [h]
theorem markL_get (l : List S35) (kind role : Int) (j : Nat) : ∀ (is out : List Int), (∀ i ∈ is, 0 ≤ i) → j < out.length → rd (markL l kind role is out) (j : Int) = if (j : Int) ∈ is ∧ (rd_T35 l (j : Int)).f0 = kind then role else rd out (j : Int)
  | [], out, _, hj => by simp [markL]
  | i :: is, out, hi, hj => by
    have hi0 : 0 ≤ i := hi i (List.mem_cons_self ..)
    have ih := markL_get l kind role j is (if (rd_T35 l i).f0 = kind then out.set i.toNat role else out) (fun x hx => hi x (List.mem_cons_of_mem _ hx)) (by split <;> simpa using hj)
    have e : markL l kind role (i :: is) out = markL l kind role is (if (rd_T35 l i).f0 = kind then out.set i.toNat role else out) := rfl
    rw [e, ih]
    by_cases hm : (j : Int) ∈ is
    · simp only [hm, List.mem_cons, or_true, true_and]
      by_cases hk : (rd_T35 l (j : Int)).f0 = kind
      · rw [if_pos hk, if_pos hk]
      · rw [if_neg hk, if_neg hk]
        by_cases h2 : (rd_T35 l i).f0 = kind
        · rw [if_pos h2, rd_set _ _ _ _ hj, if_neg (fun h => hk (by rw [show (j : Int) = i by omega]; exact h2))]
        · rw [if_neg h2]
    · rw [if_neg (fun h => hm h.1)]
      by_cases hij : (j : Int) = i
      · subst hij
        by_cases hk : (rd_T35 l (j : Int)).f0 = kind
        · rw [if_pos hk, if_pos ⟨List.mem_cons_self .., hk⟩, Int.toNat_natCast, rd_set _ _ _ _ hj, if_pos rfl]
        · rw [if_neg hk, if_neg (fun h => hk h.2)]
      · have hnot : ¬ ((j : Int) ∈ i :: is ∧ (rd_T35 l (j : Int)).f0 = kind) := fun h => by
          rcases List.mem_cons.1 h.1 with h3 | h3
          · exact hij h3
          · exact hm h3
        rw [if_neg hnot]
        by_cases h2 : (rd_T35 l i).f0 = kind
        · rw [if_pos h2, rd_set _ _ _ _ hj, if_neg (by omega)]
        · rw [if_neg h2]
theorem all_take (l : List S35) (p : S35 → Bool) (j : Nat) (hj : j < l.length) : (∀ m : Int, 0 ≤ m → m ≤ (j : Int) → p (rd_T35 l m) = true) ↔ (l.take j).all p = true ∧ p l[j] = true := by
  rw [List.all_eq_true]
  constructor
  · intro h
    refine ⟨fun x hx => ?_, by have := h j (by omega) (by omega); rw [rd_nat l hj] at this; exact this⟩
    obtain ⟨i, hi, rfl⟩ := List.getElem_of_mem hx
    rw [List.length_take] at hi
    have := h (i : Int) (by omega) (by omega)
    rw [rd_nat l (by omega)] at this
    rw [List.getElem_take]
    exact this
  · rintro ⟨h1, h2⟩ m hm0 hm1
    obtain ⟨i, rfl⟩ := Int.eq_ofNat_of_zero_le hm0
    rw [rd_nat l (by omega)]
    by_cases hij : i = j
    · subst hij; exact h2
    · exact h1 _ (List.mem_take_iff_getElem.2 ⟨i, by omega, rfl⟩)
theorem all_drop (l : List S35) (p : S35 → Bool) (j : Nat) (hj : j < l.length) : (∀ m : Int, (j : Int) ≤ m → m ≤ (l.length : Int) - 1 → p (rd_T35 l m) = true) ↔ p l[j] = true ∧ (l.drop (j + 1)).all p = true := by
  rw [List.all_eq_true]
  constructor
  · intro h
    refine ⟨by have := h j (by omega) (by omega); rw [rd_nat l hj] at this; exact this, fun x hx => ?_⟩
    obtain ⟨i, hi, rfl⟩ := List.getElem_of_mem hx
    rw [List.length_drop] at hi
    have := h ((j + 1 + i : Nat) : Int) (by omega) (by omega)
    rw [rd_nat l (by omega)] at this
    rw [List.getElem_drop]
    exact this
  · rintro ⟨h1, h2⟩ m hm0 hm1
    obtain ⟨i, rfl⟩ := Int.eq_ofNat_of_zero_le (show 0 ≤ m by omega)
    rw [rd_nat l (by omega)]
    by_cases hij : i = j
    · subst hij; exact h1
    · refine h2 _ (List.mem_drop_iff_getElem.2 ⟨i - (j + 1), by omega, ?_⟩)
      congr 1
      omega
theorem blank_of1 {c : S35} (h : c.f0 = 1) : blankB c = true := by unfold blankB; simp [h]
theorem hang_of2 {c : S35} (h : c.f0 = 2) : hangB c = true := by unfold hangB; simp [h]
theorem rolesL_eq (l : List S35) : rolesL l = rolesZ true l := by
  have hlen : (rolesL l).length = l.length := by unfold rolesL; rw [markL_len, markL_len, markL_len, List.length_replicate]
  refine List.ext_getElem (by rw [hlen, rolesZ_len]) fun j h1 h2 => ?_
  have hj : j < l.length := by omega
  have e1 : ∀ (x : List Int) (h : j < x.length), x[j] = rd x (j : Int) := fun x h => by unfold rd; simp [List.getD, h]
  rw [e1 _ h1, e1 _ h2, rolesZ_get true l j hj]
  have hup : ∀ i ∈ wayL l blankB 1 (l.length + 1) 0, 0 ≤ i := fun i hi => ((way_up l blankB _ 0 (by omega) (by omega) i).1 hi).1
  have hdn : ∀ p, ∀ i ∈ wayL l p (-1) (l.length + 1) ((l.length : Int) - 1), 0 ≤ i := fun p i hi => ((way_down l p _ ((l.length : Int) - 1) (by omega) (by omega) (by omega) i).1 hi).1
  unfold rolesL
  rw [markL_get _ _ _ _ _ _ (hdn _) (by rw [markL_len, markL_len, List.length_replicate]; exact hj), markL_get _ _ _ _ _ _ (hdn _) (by rw [markL_len, List.length_replicate]; exact hj), markL_get _ _ _ _ _ _ hup (by rw [List.length_replicate]; exact hj)]
  have a1 := all_take l blankB j hj
  have a2 := all_drop l blankB j hj
  have a3 := all_drop l hangB j hj
  have q1 : (j : Int) ∈ wayL l hangB (-1) (l.length + 1) ((l.length : Int) - 1) ↔ (hangB l[j] = true ∧ (l.drop (j + 1)).all hangB = true) := (way_down l hangB (l.length + 1) ((l.length : Int) - 1) (by omega) (by omega) (by omega) (j : Int)).trans ⟨fun h => a3.1 h.2.2, fun h => ⟨by omega, by omega, a3.2 h⟩⟩
  have q2 : (j : Int) ∈ wayL l blankB (-1) (l.length + 1) ((l.length : Int) - 1) ↔ (blankB l[j] = true ∧ (l.drop (j + 1)).all blankB = true) := (way_down l blankB (l.length + 1) ((l.length : Int) - 1) (by omega) (by omega) (by omega) (j : Int)).trans ⟨fun h => a2.1 h.2.2, fun h => ⟨by omega, by omega, a2.2 h⟩⟩
  have q3 : (j : Int) ∈ wayL l blankB 1 (l.length + 1) 0 ↔ ((l.take j).all blankB = true ∧ blankB l[j] = true) := (way_up l blankB (l.length + 1) 0 (by omega) (by omega) (j : Int)).trans ⟨fun h => a1.1 h.2.2, fun h => ⟨by omega, by omega, a1.2 h⟩⟩
  have cond : ∀ {p q : Prop} [hp : Decidable p] [hq : Decidable q] (_ : p ↔ q) (a b : Int), @ite Int p hp a b = @ite Int q hq a b := by
    intro p q hp hq h a b
    by_cases hh : p
    · rw [if_pos hh, if_pos (h.1 hh)]
    · rw [if_neg hh, if_neg (fun x => hh (h.2 x))]
  have z : rd (List.replicate l.length (0 : Int)) (j : Int) = 0 := by unfold rd; simp [List.getD, hj]
  have ef : (rd_T35 l (j : Int)).f0 = l[j].f0 := by rw [rd_nat l hj]
  rw [cond (and_congr_left' q1), cond (and_congr_left' q2), cond (and_congr_left' q3), z]
  simp only [ef]
  unfold roleZ
  by_cases k1 : l[j].f0 = 1
  · have k2 : ¬ l[j].f0 = 2 := by omega
    have kb := blank_of1 k1
    simp only [k1, kb]
    by_cases c1 : (l.drop (j + 1)).all blankB = true <;> by_cases c2 : (l.take j).all blankB = true <;> simp [c1, c2]
  · by_cases k2 : l[j].f0 = 2
    · have kb := hang_of2 k2
      simp only [k2, kb]
      by_cases c1 : (l.drop (j + 1)).all hangB = true <;> simp [c1]
    · simp [k1, k2]
theorem roles_ev {l : List S35} (hl : l.length ≤ 100000) : trim_Roles.f l = some (rolesZ true l) := by
  unfold trim_Roles.f
  rw [if_pos (by omega), rolesL_eq]
/-- What hangs is gone. -/
def unH (r : Int) : Int := if r = 2 then 1 else r
theorem hangG_len (t : List Int) : ∀ n, (hangG t n).length = t.length
  | 0 => rfl
  | n + 1 => by
    simp only [hangG]
    split <;> simp [hangG_len t n]
theorem hangG_get (t : List Int) (j : Nat) (hj : j < t.length) : ∀ n, n ≤ t.length → rd (hangG t n) (j : Int) = if j < n then unH (rd t (j : Int)) else rd t (j : Int)
  | 0, _ => by simp [hangG]
  | n + 1, hn => by
    have ih := hangG_get t j hj n (by omega)
    have en : ∀ x : List Int, rdOf (0 : Int) x (n : Int) = rd x (n : Int) := fun x => rfl
    simp only [hangG]
    rw [en]
    by_cases hjn : j = n
    · subst hjn
      rw [if_neg (by omega)] at ih
      rw [ih, if_pos (show j < j + 1 by omega)]
      unfold unH
      by_cases h2 : rd t (j : Int) = 2
      · rw [if_pos h2, if_pos h2, rd_set _ _ _ _ (by rw [hangG_len]; exact hj), if_pos rfl]
      · rw [if_neg h2, if_neg h2, ih]
    · have e : (j < n + 1) = (j < n) := by apply propext; omega
      simp only [e]
      rw [← ih]
      split
      · rw [rd_set _ _ _ _ (by rw [hangG_len]; exact hj), if_neg (by omega)]
      · rfl
theorem hangG_map (t : List Int) : hangG t t.length = t.map unH := by
  refine List.ext_getElem (by rw [hangG_len, List.length_map]) fun j h1 h2 => ?_
  rw [List.length_map] at h2
  have := hangG_get t j h2 t.length (Nat.le_refl _)
  rw [if_pos h2] at this
  have e1 : ∀ (x : List Int) (h : j < x.length), x[j] = rd x (j : Int) := fun x h => by unfold rd; simp [List.getD, h]
  rw [List.getElem_map, e1 _ h1, this, e1 _ h2]
/-- The end of what is walked. -/
def endR (rs : List Int) (l : List S35) (x : Int) : Int × Int := if (pensR rs l x).2 = 0 then (lastD x (pensR rs l x).1.tail, 0) else (0, (pensR rs l x).2)
theorem walk_len : ∀ {rs : List Int} {l : List S35} {i : Nat} {x : Int} {ys : List Int}, walk rs l i x = some ys → ys.length = l.length
  | rs, [], i, x, ys, h => by simp only [walk, Option.some.injEq] at h; rw [← h]; rfl
  | rs, c :: l, i, x, ys, h => by
    simp only [walk] at h
    obtain ⟨y, _, h2⟩ := Option.bind_eq_some_iff.1 h
    obtain ⟨zs, h3, h4⟩ := Option.map_eq_some_iff.1 h2
    rw [← h4]
    simp [walk_len h3]
theorem end_tail {rs : List Int} {l : List S35} {x : Int} (hlen : l.length ≤ 100000) {bt : List Int × Int} (hb : bt = pensR rs l x) :
    (if bt.2 = 0 then (if 0 ≤ (wrap64 ((bt.1.length : Int) - 1)) then (if (wrap64 ((bt.1.length : Int) - 1)) < (bt.1.length : Int) then (some (rd bt.1 (wrap64 ((bt.1.length : Int) - 1)), (0 : Int))) else (none)) else (none)) else (some (0, bt.2))) = some (endR rs l x) := by
  subst hb
  unfold endR
  rcases pensR_or rs l x with ⟨e, he, _, hp⟩ | ⟨ys, hp, hw, _, _⟩
  · rw [hp, if_neg he, if_neg he]
  · rw [hp, if_pos rfl, if_pos rfl]
    have hy := walk_len hw
    have e1 : wrap64 (((x :: ys).length : Int) - 1) = (ys.length : Int) := by rw [ws (by simp only [List.length_cons]; omega) (by simp only [List.length_cons]; omega)]; simp only [List.length_cons]; omega
    simp only []
    rw [e1, if_pos (by omega), if_pos (by simp only [List.length_cons]; omega), rd_last]
    rfl
theorem end_eq {rs : List Int} {l : List S35} {x : Int} (hlen : l.length ≤ 100000) (hl : ∀ c ∈ l, okC c) (hx : in64 x) : tabs_End.f l rs x = some (endR rs l x) := by
  unfold tabs_End.f
  rw [pens_eq (by omega) hl hx]
  exact end_tail hlen rfl
theorem goes_eq {l : List S35} {x : Int} (hlen : l.length ≤ 100000) (hl : ∀ c ∈ l, okC c) (hx : in64 x) : trim_Goes.f l x = some (endR (rolesZ true l) l x) := by
  unfold trim_Goes.f
  rw [roles_ev hlen, Option.bind_some, end_eq hlen hl hx]
  rfl
theorem fits_eq {l : List S35} {x : Int} (hlen : l.length ≤ 100000) (hl : ∀ c ∈ l, okC c) (hx : in64 x) : trim_Fits.f l x = some (endR ((rolesZ true l).map unH) l x) := by
  unfold trim_Fits.f
  rw [roles_ev hlen, Option.bind_some, hangG_map, end_eq hlen hl hx]
  rfl
end Go.Proofs.Ytkegnlidlabjeaa.Pure
