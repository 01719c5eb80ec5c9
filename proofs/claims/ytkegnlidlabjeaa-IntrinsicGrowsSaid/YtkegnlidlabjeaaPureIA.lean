/- Plain laws of chapter 21: what pens are, without a program in sight. No condition of its own. -/
import Derived.Test.YtkegnlidlabjeaaHIntrx8
import Derived.Test.YtkegnlidlabjeaaSayIntr
import Derived.Test.YtkegnlidlabjeaaHIntrx15
import Derived.Test.YtkegnlidlabjeaaHIntrx9
import Derived.Test.YtkegnlidlabjeaaHIntrx14
namespace Go.Proofs.Ytkegnlidlabjeaa.PureI
open Go.RowKit Go.Proofs.YtkegnlidlabjeaaW.PrintWords Go.Proofs.YtkegnlidlabjeaaW.PrintLast Go.Proofs.YtkegnlidlabjeaaW.PrintMore Go.Proofs.Ytkegnlidlabjeaa.Hand Go.Proofs.Ytkegnlidlabjeaa.HIntr
def fits (x : Int) : Prop := -4611686018427387904 ≤ x ∧ x ≤ 4611686018427387904
instance (x : Int) : Decidable (fits x) := by unfold fits; exact inferInstance
def fitO (s : Int) : Option Int := if fits s then some s else none
/-- The pen behind a cell that may be. -/
def nxt (c : S35) (x : Int) : Option Int := if c.f0 = 4 then (if c.f3 = 0 then some x else fitO (x - x % c.f3 + c.f3)) else fitO (x + c.f3)
def nxtR (r : Int) (c : S35) (x : Int) : Option Int := if r = 1 then some x else nxt c x
/-- The pens behind cells. -/
def walk (rs : List Int) : List S35 → Nat → Int → Option (List Int)
  | [], _, _ => some []
  | c :: l, i, x => (nxtR (roleAt rs i) c x).bind fun y => (walk rs l (i + 1) y).map (y :: ·)
def pensR (rs : List Int) (l : List S35) (x : Int) : List Int × Int :=
  if l.any badTab then ([], 2) else if fits x then (match walk rs l 0 x with | some ys => (x :: ys, 0) | none => ([], 10)) else ([], 10)
def okC (c : S35) : Prop := in64 c.f3

theorem ws {x : Int} (h1 : -9223372036854775808 ≤ x) (h2 : x ≤ 9223372036854775807) : wrap64 x = x := by
  unfold wrap64
  omega
theorem wrap_in (x : Int) : in64 (wrap64 x) := by unfold in64 wrap64; omega
theorem sum_ok {l : List Int} (h : ∀ x ∈ l, in64 x) (hl : l.length ≤ 1000) : unit_Sum.f l = some (if fits l.sum then (l.sum, 0) else (0, 10)) := by
  unfold unit_Sum.f
  rw [if_pos ⟨h, by omega⟩]
  by_cases hf : fits l.sum
  · rw [if_pos hf]; exact if_pos hf
  · rw [if_neg hf]; exact if_neg hf
theorem in_of_fits {x : Int} (h : fits x) : in64 x := by unfold fits at h; unfold in64; omega
theorem tmod_cases {x d : Int} (hd : 0 < d) : (x.tmod d < 0 ∧ x % d = x.tmod d + d) ∨ (¬ x.tmod d < 0 ∧ x % d = x.tmod d) := by
  have h1 : 0 ≤ x % d := Int.emod_nonneg x (by omega)
  have h2 : x % d < d := Int.emod_lt_of_pos x hd
  rcases Int.le_total 0 x with hx | hx
  · right
    rw [Int.tmod_eq_emod_of_nonneg hx]
    exact ⟨by omega, rfl⟩
  · have e : x.tmod d = -((-x).tmod d) := by rw [Int.neg_tmod]; omega
    rw [Int.tmod_eq_emod_of_nonneg (show 0 ≤ -x by omega)] at e
    have h3 : 0 ≤ (-x) % d := Int.emod_nonneg (-x) (by omega)
    have h4 : (-x) % d < d := Int.emod_lt_of_pos (-x) hd
    have h5 : ((-x) % d + x % d) % d = 0 := by rw [← Int.add_emod]; simp [Int.add_left_neg]
    by_cases hz : (-x) % d = 0
    · right
      rw [hz] at h5 e
      rw [Int.zero_add, Int.emod_emod_of_dvd x (Int.dvd_refl d)] at h5
      omega
    · left
      have h6 : (-x) % d + x % d = d := by
        by_cases hc : (-x) % d + x % d < d
        · rw [Int.emod_eq_of_lt (by omega) hc] at h5
          omega
        · have : ((-x) % d + x % d - d) % d = 0 := by rw [Int.sub_emod_right]; exact h5
          rw [Int.emod_eq_of_lt (by omega) (by omega)] at this
          omega
      omega
theorem step_eq {c : S35} (hc : okC c) (hb : badTab c = false) {x : Int} (hx : fits x) : stepC c x = some (match nxt c x with | some y => (y, 0) | none => (0, 10)) := by
  have hx1 := in_of_fits hx
  have s1 : unit_Sum.f [x] = some (x, 0) := by
    rw [sum_ok (by simpa using hx1) (by simp)]
    simp only [List.sum_cons, List.sum_nil, Int.add_zero]
    rw [if_pos hx]
  unfold stepC tabs_Step.f nxt
  rw [s1]
  simp only [Option.bind_some]
  by_cases h4 : c.f0 = 4
  · rw [if_pos h4, if_pos h4]
    have h3 : ¬ c.f3 < 0 := by
      intro h
      unfold badTab at hb
      rw [h4, decide_eq_true h] at hb
      cases hb
    rw [decide_eq_false h3]
    simp only [tabs_Step.j0]
    rw [if_neg (by decide), if_pos h4, if_pos trivial]
    by_cases h0 : c.f3 = 0
    · rw [if_pos h0, if_pos h0]
    · rw [if_neg h0, if_neg h0]
      have hd : 0 < c.f3 := by omega
      have hi : c.f3 ≤ 9223372036854775807 := hc.2
      have hm1 : 0 ≤ x % c.f3 := Int.emod_nonneg x (by omega)
      have hm2 : x % c.f3 < c.f3 := Int.emod_lt_of_pos x hd
      have key : unit_Stop.f x c.f3 = some (if fits (x - x % c.f3 + c.f3) then (x - x % c.f3 + c.f3, 0) else (0, 10)) := by
        unfold unit_Stop.f
        rw [if_neg (by omega), if_neg h0]
        rcases tmod_cases (x := x) hd with ⟨ht, he⟩ | ⟨ht, he⟩
        · rw [if_pos ht, show wrap64 (x.tmod c.f3 + c.f3) = x % c.f3 by rw [he]; exact ws (by omega) (by omega), ws (x := -(x % c.f3)) (by omega) (by omega), sum_ok (by
            intro y hy
            simp at hy
            rcases hy with rfl | rfl | rfl
            · exact hx1
            · unfold in64; omega
            · exact hc) (by simp)]
          have es : [x, -(x % c.f3), c.f3].sum = x - x % c.f3 + c.f3 := by simp; omega
          rw [es]
          simp only [Option.bind_some]
        · rw [if_neg ht, ← he, ws (x := -(x % c.f3)) (by omega) (by omega), sum_ok (by
            intro y hy
            simp at hy
            rcases hy with rfl | rfl | rfl
            · exact hx1
            · unfold in64; omega
            · exact hc) (by simp)]
          have es : [x, -(x % c.f3), c.f3].sum = x - x % c.f3 + c.f3 := by simp; omega
          rw [es]
          simp only [Option.bind_some]
      rw [key]
      unfold fitO
      by_cases hf : fits (x - x % c.f3 + c.f3)
      · rw [if_pos hf, if_pos hf]; rfl
      · rw [if_neg hf, if_neg hf]; rfl
  · rw [if_neg h4, if_neg h4]
    simp only [tabs_Step.j0]
    rw [if_neg (by decide), if_neg h4, sum_ok (by
      intro y hy
      simp at hy
      rcases hy with rfl | rfl
      · exact hx1
      · exact hc) (by simp)]
    have es : [x, c.f3].sum = x + c.f3 := by simp
    rw [es]
    unfold fitO
    by_cases hf : fits (x + c.f3)
    · rw [if_pos hf, if_pos hf]; rfl
    · rw [if_neg hf, if_neg hf]; rfl
theorem nxt_fits {c : S35} {x y : Int} (hx : fits x) (h : nxt c x = some y) : fits y := by
  unfold nxt fitO at h
  split at h
  · split at h
    · cases h; exact hx
    · split at h
      · cases h; assumption
      · cases h
  · split at h
    · cases h; assumption
    · cases h
theorem nxtR_fits {r : Int} {c : S35} {x y : Int} (hx : fits x) (h : nxtR r c x = some y) : fits y := by
  unfold nxtR at h
  split at h
  · cases h; exact hx
  · exact nxt_fits hx h
theorem pen_eq {c : S35} (hc : okC c) (hb : badTab c = false) {r x : Int} (hx : fits x) : penOf c r x = some (match nxtR r c x with | some y => (y, 0) | none => (0, 10)) := by
  unfold penOf nxtR
  by_cases h : r = 1
  · rw [if_pos h, if_pos h]
  · rw [if_neg h, if_neg h]; exact step_eq hc hb hx
theorem lastE_cons {p : Int × Int} {ps : List (Int × Int)} (h : lastE ps = 10) : lastE (p :: ps) = 10 := by
  cases ps with
  | nil => cases h
  | cons q qs => exact h
theorem pensL_eq (rs : List Int) : ∀ (l : List S35) (i : Nat) (x : Int), (∀ c ∈ l, okC c ∧ badTab c = false) → fits x →
    ∃ ps, pensL rs l i x = some ps ∧ (match walk rs l i x with | some ys => ps = ys.map (fun y => (y, 0)) | none => lastE ps = 10)
  | [], i, x, _, _ => ⟨[], rfl, rfl⟩
  | c :: l, i, x, hl, hx => by
    obtain ⟨hc, hb⟩ := hl c (List.mem_cons_self ..)
    have hl2 : ∀ c ∈ l, okC c ∧ badTab c = false := fun d hd => hl d (List.mem_cons_of_mem _ hd)
    simp only [pensL, walk]
    rw [pen_eq hc hb hx]
    cases hn : nxtR (roleAt rs i) c x with
    | none => exact ⟨[(0, 10)], by simp, by simp [lastE]⟩
    | some y =>
      obtain ⟨ps, h1, h2⟩ := pensL_eq rs l (i + 1) y hl2 (nxtR_fits hx hn)
      refine ⟨(y, 0) :: ps, by simp [h1], ?_⟩
      simp only [Option.bind_some]
      cases hw : walk rs l (i + 1) y with
      | none => rw [hw] at h2; exact lastE_cons h2
      | some ys => rw [hw] at h2; simp only [Option.map_some]; rw [h2]; rfl
theorem pens_eq {l : List S35} {rs : List Int} {x : Int} (hlen : l.length ≤ 1000000000000) (hl : ∀ c ∈ l, okC c) (hx : in64 x) : tabs_Pens.f l rs x = some (pensR rs l x) := by
  unfold tabs_Pens.f pensR
  rw [if_pos hlen]
  by_cases hb : l.any badTab = true
  · rw [if_pos hb, if_pos hb]
  · rw [if_neg hb, if_neg hb]
    have s1 : unit_Sum.f [x] = some (if fits x then (x, 0) else (0, 10)) := by
      rw [sum_ok (by simpa using hx) (by simp)]
      simp
    rw [s1]
    by_cases hf : fits x
    · rw [if_pos hf, if_pos hf]
      simp only [Option.bind_some, if_true]
      have hl2 : ∀ c ∈ l, okC c ∧ badTab c = false := fun c hc => ⟨hl c hc, by
        cases h : badTab c with
        | false => rfl
        | true => exact absurd (List.any_eq_true.2 ⟨c, hc, h⟩) hb⟩
      obtain ⟨ps, h1, h2⟩ := pensL_eq rs l 0 x hl2 hf
      rw [h1]
      simp only [Option.bind_some]
      cases hw : walk rs l 0 x with
      | none => rw [hw] at h2; simp only at h2; rw [h2]; rfl
      | some ys =>
        rw [hw] at h2
        simp only at h2
        have hz : lastE ps = 0 := lastE_zero (fun q hq => by rw [h2] at hq; obtain ⟨y, _, rfl⟩ := List.mem_map.1 hq; rfl)
        rw [if_pos hz, h2, List.map_map]
        congr 2
        exact congrArg _ (List.map_id'' (fun _ => rfl) ys)
    · rw [if_neg hf, if_neg hf]
      simp
end Go.Proofs.Ytkegnlidlabjeaa.PureI
namespace Go.Proofs.Ytkegnlidlabjeaa.PureI
open Go.RowKit Go.Proofs.YtkegnlidlabjeaaW.PrintWords Go.Proofs.YtkegnlidlabjeaaW.PrintLast Go.Proofs.YtkegnlidlabjeaaW.PrintMore Go.Proofs.Ytkegnlidlabjeaa.Hand Go.Proofs.Ytkegnlidlabjeaa.HIntr
theorem i64_of {n : Int} (h : (Lit.int .i64 n).wf = true) : in64 n := by
  have h2 : IntKind.i64.min ≤ n ∧ n ≤ IntKind.i64.max := by simpa [Lit.wf] using h
  have e1 : IntKind.i64.min = -9223372036854775808 := rfl
  have e2 : IntKind.i64.max = 9223372036854775807 := rfl
  unfold in64
  omega
theorem u8_of {n : Int} (h : (Lit.int .u8 n).wf = true) : 0 ≤ n ∧ n ≤ 255 := by
  have h2 : IntKind.u8.min ≤ n ∧ n ≤ IntKind.u8.max := by simpa [Lit.wf] using h
  have e1 : IntKind.u8.min = 0 := rfl
  have e2 : IntKind.u8.max = 255 := rfl
  omega
theorem okC_of {c : S35} (h : W35 c) : okC c := i64_of h.2.2.2.1
theorem head_ev : Ev (fun k => stickfullaw21_head.f k) true := Ev.of (fun k => stickfullaw21_head.mono k) (k := 100) (by kernel_rfl)
theorem head_ev2 : Ev (fun k => (stickfullaw21_head.f k).bind fun t => some t) true := Ev.bind head_ev (Ev.now true)
theorem w1 {n : Nat} (h : n ≤ 1000000000) : wrap64 ((n : Int) + 1) = ((n + 1 : Nat) : Int) := by rw [ws (by omega) (by omega)]; rfl
/-- The pens behind cells, none of which is taken out. -/
def walk0 : List S35 → Int → Option (List Int)
  | [], _ => some []
  | c :: l, x => (nxt c x).bind fun y => (walk0 l y).map (y :: ·)
theorem walk_nil : ∀ (l : List S35) (i : Nat) (x : Int), walk [] l i x = walk0 l x
  | [], _, _ => rfl
  | c :: l, i, x => by
    have e : nxtR (roleAt [] i) c x = nxt c x := by
      unfold nxtR roleAt
      rw [if_neg (by simp; split <;> omega)]
    simp only [walk, walk0]
    rw [e]
    congr 1
    funext y
    rw [walk_nil l (i + 1) y]
def lastD : Int → List Int → Int
  | x, [] => x
  | _, y :: ys => lastD y ys
theorem rd_last : ∀ (x : Int) (ys : List Int), rd (x :: ys) ((ys.length : Nat) : Int) = lastD x ys
  | x, [] => rfl
  | x, y :: ys => by
    rw [lastD, ← rd_last y ys]
    unfold rd
    simp [List.getD]
theorem walk0_len : ∀ {l : List S35} {x : Int} {ys : List Int}, walk0 l x = some ys → ys.length = l.length
  | [], x, ys, h => by simp only [walk0, Option.some.injEq] at h; rw [← h]; rfl
  | c :: l, x, ys, h => by
    simp only [walk0] at h
    obtain ⟨y, _, h2⟩ := Option.bind_eq_some_iff.1 h
    obtain ⟨zs, h3, h4⟩ := Option.map_eq_some_iff.1 h2
    rw [← h4]
    simp [walk0_len h3]
theorem walk0_append : ∀ (l1 l2 : List S35) (x : Int), walk0 (l1 ++ l2) x = (walk0 l1 x).bind fun ys => (walk0 l2 (lastD x ys)).map (ys ++ ·)
  | [], l2, x => by simp [walk0, lastD]
  | c :: l1, l2, x => by
    simp only [List.cons_append, walk0]
    cases hn : nxt c x with
    | none => rfl
    | some y =>
      simp only [Option.bind_some]
      rw [walk0_append l1 l2 y]
      cases hw : walk0 l1 y with
      | none => rfl
      | some ys =>
        simp only [Option.bind_some, Option.map_some, lastD]
        cases walk0 l2 (lastD y ys) <;> rfl
theorem walk0_fits : ∀ {l : List S35} {x : Int} {ys : List Int}, fits x → walk0 l x = some ys → fits (lastD x ys) ∧ ∀ y ∈ ys, fits y
  | [], x, ys, hx, h => by simp only [walk0, Option.some.injEq] at h; rw [← h]; exact ⟨hx, by simp⟩
  | c :: l, x, ys, hx, h => by
    simp only [walk0] at h
    obtain ⟨y, h1, h2⟩ := Option.bind_eq_some_iff.1 h
    obtain ⟨zs, h3, h4⟩ := Option.map_eq_some_iff.1 h2
    have hy := nxt_fits hx h1
    obtain ⟨g1, g2⟩ := walk0_fits hy h3
    rw [← h4]
    exact ⟨g1, fun z hz => by
      rcases List.mem_cons.1 hz with rfl | hz
      · exact hy
      · exact g2 z hz⟩
/-- What Pens tells: an error and no pens, or all pens. -/
theorem pensR_or (rs : List Int) (l : List S35) (x : Int) :
    (∃ e, e ≠ 0 ∧ (e = 2 ∨ e = 10) ∧ pensR rs l x = ([], e)) ∨ (∃ ys, pensR rs l x = (x :: ys, 0) ∧ walk rs l 0 x = some ys ∧ fits x ∧ l.any badTab = false) := by
  unfold pensR
  by_cases hb : l.any badTab = true
  · rw [if_pos hb]; exact .inl ⟨2, by decide, .inl rfl, rfl⟩
  · rw [if_neg hb]
    by_cases hf : fits x
    · rw [if_pos hf]
      cases walk rs l 0 x with
      | none => exact .inl ⟨10, by decide, .inr rfl, rfl⟩
      | some ys => exact .inr ⟨ys, rfl, rfl, hf, by simpa using hb⟩
    · rw [if_neg hf]; exact .inl ⟨10, by decide, .inr rfl, rfl⟩
theorem pensR_some {rs : List Int} {l : List S35} {x : Int} {ys : List Int} (hw : walk rs l 0 x = some ys) (hf : fits x) (hb : l.any badTab = false) : pensR rs l x = (x :: ys, 0) := by
  unfold pensR
  rw [hb, if_neg (by decide), if_pos hf, hw]
end Go.Proofs.Ytkegnlidlabjeaa.PureI
namespace Go.Proofs.Ytkegnlidlabjeaa.PureI
set_option linter.unusedVariables false
set_option linter.unusedSimpArgs false
open Go.RowKit Go.Proofs.YtkegnlidlabjeaaW.PrintWords Go.Proofs.YtkegnlidlabjeaaW.PrintLast Go.Proofs.YtkegnlidlabjeaaW.PrintMore Go.Proofs.Ytkegnlidlabjeaa.Hand Go.Proofs.Ytkegnlidlabjeaa.HIntr
/-- The role of a cell behind a prefix that is blank or not, ahead of a suffix. -/
def roleZ (a : Bool) (c : S35) (s : List S35) : Int :=
  if c.f0 = 1 ∧ (a = true ∨ s.all blankB = true) then 1 else if c.f0 = 2 ∧ s.all hangB = true then 2 else 0
def rolesZ : Bool → List S35 → List Int
  | _, [] => []
  | a, c :: s => roleZ a c s :: rolesZ (a && blankB c) s
theorem rolesZ_len : ∀ (a : Bool) (l : List S35), (rolesZ a l).length = l.length
  | _, [] => rfl
  | a, c :: s => by simp [rolesZ, rolesZ_len (a && blankB c) s]
theorem rd_nat (l : List S35) {i : Nat} (hi : i < l.length) : rd_T35 l (i : Int) = l[i] := by
  unfold rd_T35
  simp [List.getD, hi]
theorem rolesZ_get : ∀ (a : Bool) (l : List S35) (i : Nat) (hi : i < l.length), rd (rolesZ a l) (i : Int) = roleZ (a && (l.take i).all blankB) l[i] (l.drop (i + 1))
  | _, [], i, hi => by simp at hi
  | a, c :: s, 0, hi => by simp [rolesZ, rd]
  | a, c :: s, i + 1, hi => by
    have h := rolesZ_get (a && blankB c) s i (by simpa using hi)
    simp only [rolesZ]
    have e : rd (roleZ a c s :: rolesZ (a && blankB c) s) ((i + 1 : Nat) : Int) = rd (rolesZ (a && blankB c) s) (i : Int) := by
      unfold rd
      simp [List.getD]
    rw [e, h]
    simp [List.take_succ_cons, Bool.and_assoc]
/-- The ways from the front, and from the back. -/
theorem way_up (l : List S35) (p : S35 → Bool) : ∀ (n : Nat) (i : Int), 0 ≤ i → (l.length : Int) - i < n → ∀ j : Int, j ∈ wayL l p 1 n i ↔ i ≤ j ∧ j < (l.length : Int) ∧ ∀ m : Int, i ≤ m → m ≤ j → p (rd_T35 l m) = true
  | 0, i, h0, hn, j => by
    simp only [wayL, List.not_mem_nil, false_iff]
    rintro ⟨h1, h2, h3⟩
    omega
  | n + 1, i, h0, hn, j => by
    have ih := way_up l p n (i + 1) (by omega) (by omega) j
    simp only [wayL]
    by_cases hc : 0 ≤ i ∧ i < (l.length : Int) ∧ p (rd_T35 l i) = true
    · rw [if_pos hc, List.mem_cons, ih]
      constructor
      · rintro (rfl | ⟨h1, h2, h3⟩)
        · exact ⟨by omega, hc.2.1, fun m h4 h5 => by rw [show m = j by omega]; exact hc.2.2⟩
        · exact ⟨by omega, h2, fun m h4 h5 => by
            by_cases hm : m = i
            · rw [hm]; exact hc.2.2
            · exact h3 m (by omega) h5⟩
      · rintro ⟨h1, h2, h3⟩
        by_cases hj : j = i
        · exact .inl hj
        · exact .inr ⟨by omega, h2, fun m h4 h5 => h3 m (by omega) h5⟩
    · rw [if_neg hc]
      simp only [List.not_mem_nil, false_iff]
      rintro ⟨h1, h2, h3⟩
      exact hc ⟨h0, by omega, h3 i (by omega) (by omega)⟩
theorem way_down (l : List S35) (p : S35 → Bool) : ∀ (n : Nat) (i : Int), i < (l.length : Int) → -1 ≤ i → i + 1 < n → ∀ j : Int, j ∈ wayL l p (-1) n i ↔ 0 ≤ j ∧ j ≤ i ∧ ∀ m : Int, j ≤ m → m ≤ i → p (rd_T35 l m) = true
  | 0, i, h0, h1, hn, j => by omega
  | n + 1, i, h0, h1, hn, j => by
    simp only [wayL]
    by_cases hc : 0 ≤ i ∧ i < (l.length : Int) ∧ p (rd_T35 l i) = true
    · have ih := way_down l p n (i + -1) (by omega) (by omega) (by omega) j
      rw [if_pos hc, List.mem_cons, ih]
      constructor
      · rintro (rfl | ⟨h1, h2, h3⟩)
        · exact ⟨hc.1, by omega, fun m h4 h5 => by rw [show m = j by omega]; exact hc.2.2⟩
        · exact ⟨h1, by omega, fun m h4 h5 => by
            by_cases hm : m = i
            · rw [hm]; exact hc.2.2
            · exact h3 m h4 (by omega)⟩
      · rintro ⟨h1, h2, h3⟩
        by_cases hj : j = i
        · exact .inl hj
        · exact .inr ⟨h1, by omega, fun m h4 h5 => h3 m h4 (by omega)⟩
    · rw [if_neg hc]
      simp only [List.not_mem_nil, false_iff]
      rintro ⟨h1, h2, h3⟩
      exact hc ⟨by omega, h0, h3 i (by omega) (by omega)⟩
theorem markL_len (l : List S35) (kind role : Int) : ∀ (is out : List Int), (markL l kind role is out).length = out.length
  | [], out => rfl
  | i :: is, out => by
    have := markL_len l kind role is (if (rd_T35 l i).f0 = kind then out.set i.toNat role else out)
    unfold markL at this ⊢
    rw [List.foldl_cons, this]
    split <;> simp
theorem rd_set (out : List Int) (i j : Nat) (v : Int) (hj : j < out.length) : rd (out.set i v) (j : Int) = if i = j then v else rd out (j : Int) := by
  unfold rd
  simp only [Int.toNat_natCast, List.getD_eq_getElem?_getD, List.getElem?_set]
  by_cases h : i = j
  · subst h; simp [hj]
  · simp [h]
theorem markL_get (l : List S35) (kind role : Int) (j : Nat) : ∀ (is out : List Int), (∀ i ∈ is, 0 ≤ i) → j < out.length → rd (markL l kind role is out) (j : Int) = if (j : Int) ∈ is ∧ (rd_T35 l (j : Int)).f0 = kind then role else rd out (j : Int)
  | [], out, _, hj => by simp [markL]
  | i :: is, out, hi, hj => by
    have hi0 : 0 ≤ i := hi i (List.mem_cons_self ..)
    have ih := markL_get l kind role j is (if (rd_T35 l i).f0 = kind then out.set i.toNat role else out) (fun x hx => hi x (List.mem_cons_of_mem _ hx)) (by split <;> simpa using hj)
    have e : markL l kind role (i :: is) out = markL l kind role is (if (rd_T35 l i).f0 = kind then out.set i.toNat role else out) := rfl
    rw [e, ih]
    by_cases hm : (j : Int) ∈ is
    · simp only [hm, List.mem_cons, or_true, true_and]
      by_cases hk : (rd_T35 l (j : Int)).f0 = kind
      · rw [if_pos hk, if_pos hk]
      · rw [if_neg hk, if_neg hk]
        by_cases h2 : (rd_T35 l i).f0 = kind
        · rw [if_pos h2, rd_set _ _ _ _ hj, if_neg (fun h => hk (by rw [show (j : Int) = i by omega]; exact h2))]
        · rw [if_neg h2]
    · rw [if_neg (fun h => hm h.1)]
      by_cases hij : (j : Int) = i
      · subst hij
        by_cases hk : (rd_T35 l (j : Int)).f0 = kind
        · rw [if_pos hk, if_pos ⟨List.mem_cons_self .., hk⟩, Int.toNat_natCast, rd_set _ _ _ _ hj, if_pos rfl]
        · rw [if_neg hk, if_neg (fun h => hk h.2)]
      · have hnot : ¬ ((j : Int) ∈ i :: is ∧ (rd_T35 l (j : Int)).f0 = kind) := fun h => by
          rcases List.mem_cons.1 h.1 with h3 | h3
          · exact hij h3
          · exact hm h3
        rw [if_neg hnot]
        by_cases h2 : (rd_T35 l i).f0 = kind
        · rw [if_pos h2, rd_set _ _ _ _ hj, if_neg (by omega)]
        · rw [if_neg h2]
theorem all_take (l : List S35) (p : S35 → Bool) (j : Nat) (hj : j < l.length) : (∀ m : Int, 0 ≤ m → m ≤ (j : Int) → p (rd_T35 l m) = true) ↔ (l.take j).all p = true ∧ p l[j] = true := by
  rw [List.all_eq_true]
  constructor
  · intro h
    refine ⟨fun x hx => ?_, by have := h j (by omega) (by omega); rw [rd_nat l hj] at this; exact this⟩
    obtain ⟨i, hi, rfl⟩ := List.getElem_of_mem hx
    rw [List.length_take] at hi
    have := h (i : Int) (by omega) (by omega)
    rw [rd_nat l (by omega)] at this
    rw [List.getElem_take]
    exact this
  · rintro ⟨h1, h2⟩ m hm0 hm1
    obtain ⟨i, rfl⟩ := Int.eq_ofNat_of_zero_le hm0
    rw [rd_nat l (by omega)]
    by_cases hij : i = j
    · subst hij; exact h2
    · exact h1 _ (List.mem_take_iff_getElem.2 ⟨i, by omega, rfl⟩)
theorem all_drop (l : List S35) (p : S35 → Bool) (j : Nat) (hj : j < l.length) : (∀ m : Int, (j : Int) ≤ m → m ≤ (l.length : Int) - 1 → p (rd_T35 l m) = true) ↔ p l[j] = true ∧ (l.drop (j + 1)).all p = true := by
  rw [List.all_eq_true]
  constructor
  · intro h
    refine ⟨by have := h j (by omega) (by omega); rw [rd_nat l hj] at this; exact this, fun x hx => ?_⟩
    obtain ⟨i, hi, rfl⟩ := List.getElem_of_mem hx
    rw [List.length_drop] at hi
    have := h ((j + 1 + i : Nat) : Int) (by omega) (by omega)
    rw [rd_nat l (by omega)] at this
    rw [List.getElem_drop]
    exact this
  · rintro ⟨h1, h2⟩ m hm0 hm1
    obtain ⟨i, rfl⟩ := Int.eq_ofNat_of_zero_le (show 0 ≤ m by omega)
    rw [rd_nat l (by omega)]
    by_cases hij : i = j
    · subst hij; exact h1
    · refine h2 _ (List.mem_drop_iff_getElem.2 ⟨i - (j + 1), by omega, ?_⟩)
      congr 1
      omega
theorem blank_of1 {c : S35} (h : c.f0 = 1) : blankB c = true := by unfold blankB; simp [h]
theorem hang_of2 {c : S35} (h : c.f0 = 2) : hangB c = true := by unfold hangB; simp [h]
theorem rolesL_eq (l : List S35) : rolesL l = rolesZ true l := by
  have hlen : (rolesL l).length = l.length := by unfold rolesL; rw [markL_len, markL_len, markL_len, List.length_replicate]
  refine List.ext_getElem (by rw [hlen, rolesZ_len]) fun j h1 h2 => ?_
  have hj : j < l.length := by omega
  have e1 : ∀ (x : List Int) (h : j < x.length), x[j] = rd x (j : Int) := fun x h => by unfold rd; simp [List.getD, h]
  rw [e1 _ h1, e1 _ h2, rolesZ_get true l j hj]
  have hup : ∀ i ∈ wayL l blankB 1 (l.length + 1) 0, 0 ≤ i := fun i hi => ((way_up l blankB _ 0 (by omega) (by omega) i).1 hi).1
  have hdn : ∀ p, ∀ i ∈ wayL l p (-1) (l.length + 1) ((l.length : Int) - 1), 0 ≤ i := fun p i hi => ((way_down l p _ ((l.length : Int) - 1) (by omega) (by omega) (by omega) i).1 hi).1
  unfold rolesL
  rw [markL_get _ _ _ _ _ _ (hdn _) (by rw [markL_len, markL_len, List.length_replicate]; exact hj), markL_get _ _ _ _ _ _ (hdn _) (by rw [markL_len, List.length_replicate]; exact hj), markL_get _ _ _ _ _ _ hup (by rw [List.length_replicate]; exact hj)]
  have a1 := all_take l blankB j hj
  have a2 := all_drop l blankB j hj
  have a3 := all_drop l hangB j hj
  have q1 : (j : Int) ∈ wayL l hangB (-1) (l.length + 1) ((l.length : Int) - 1) ↔ (hangB l[j] = true ∧ (l.drop (j + 1)).all hangB = true) := (way_down l hangB (l.length + 1) ((l.length : Int) - 1) (by omega) (by omega) (by omega) (j : Int)).trans ⟨fun h => a3.1 h.2.2, fun h => ⟨by omega, by omega, a3.2 h⟩⟩
  have q2 : (j : Int) ∈ wayL l blankB (-1) (l.length + 1) ((l.length : Int) - 1) ↔ (blankB l[j] = true ∧ (l.drop (j + 1)).all blankB = true) := (way_down l blankB (l.length + 1) ((l.length : Int) - 1) (by omega) (by omega) (by omega) (j : Int)).trans ⟨fun h => a2.1 h.2.2, fun h => ⟨by omega, by omega, a2.2 h⟩⟩
  have q3 : (j : Int) ∈ wayL l blankB 1 (l.length + 1) 0 ↔ ((l.take j).all blankB = true ∧ blankB l[j] = true) := (way_up l blankB (l.length + 1) 0 (by omega) (by omega) (j : Int)).trans ⟨fun h => a1.1 h.2.2, fun h => ⟨by omega, by omega, a1.2 h⟩⟩
  have cond : ∀ {p q : Prop} [hp : Decidable p] [hq : Decidable q] (_ : p ↔ q) (a b : Int), @ite Int p hp a b = @ite Int q hq a b := by
    intro p q hp hq h a b
    by_cases hh : p
    · rw [if_pos hh, if_pos (h.1 hh)]
    · rw [if_neg hh, if_neg (fun x => hh (h.2 x))]
  have z : rd (List.replicate l.length (0 : Int)) (j : Int) = 0 := by unfold rd; simp [List.getD, hj]
  have ef : (rd_T35 l (j : Int)).f0 = l[j].f0 := by rw [rd_nat l hj]
  rw [cond (and_congr_left' q1), cond (and_congr_left' q2), cond (and_congr_left' q3), z]
  simp only [ef]
  unfold roleZ
  by_cases k1 : l[j].f0 = 1
  · have k2 : ¬ l[j].f0 = 2 := by omega
    have kb := blank_of1 k1
    simp only [k1, kb]
    by_cases c1 : (l.drop (j + 1)).all blankB = true <;> by_cases c2 : (l.take j).all blankB = true <;> simp [c1, c2]
  · by_cases k2 : l[j].f0 = 2
    · have kb := hang_of2 k2
      simp only [k2, kb]
      by_cases c1 : (l.drop (j + 1)).all hangB = true <;> simp [c1]
    · simp [k1, k2]
theorem roles_ev {l : List S35} (hl : l.length ≤ 100000) : trim_Roles.f l = some (rolesZ true l) := by
  unfold trim_Roles.f
  rw [if_pos (by omega), rolesL_eq]
/-- What hangs is gone. -/
def unH (r : Int) : Int := if r = 2 then 1 else r
theorem hangG_len (t : List Int) : ∀ n, (hangG t n).length = t.length
  | 0 => rfl
  | n + 1 => by
    simp only [hangG]
    split <;> simp [hangG_len t n]
theorem hangG_get (t : List Int) (j : Nat) (hj : j < t.length) : ∀ n, n ≤ t.length → rd (hangG t n) (j : Int) = if j < n then unH (rd t (j : Int)) else rd t (j : Int)
  | 0, _ => by simp [hangG]
  | n + 1, hn => by
    have ih := hangG_get t j hj n (by omega)
    have en : ∀ x : List Int, rdOf (0 : Int) x (n : Int) = rd x (n : Int) := fun x => rfl
    simp only [hangG]
    rw [en]
    by_cases hjn : j = n
    · subst hjn
      rw [if_neg (by omega)] at ih
      rw [ih, if_pos (show j < j + 1 by omega)]
      unfold unH
      by_cases h2 : rd t (j : Int) = 2
      · rw [if_pos h2, if_pos h2, rd_set _ _ _ _ (by rw [hangG_len]; exact hj), if_pos rfl]
      · rw [if_neg h2, if_neg h2, ih]
    · have e : (j < n + 1) = (j < n) := by apply propext; omega
      simp only [e]
      rw [← ih]
      split
      · rw [rd_set _ _ _ _ (by rw [hangG_len]; exact hj), if_neg (by omega)]
      · rfl
theorem hangG_map (t : List Int) : hangG t t.length = t.map unH := by
  refine List.ext_getElem (by rw [hangG_len, List.length_map]) fun j h1 h2 => ?_
  rw [List.length_map] at h2
  have := hangG_get t j h2 t.length (Nat.le_refl _)
  rw [if_pos h2] at this
  have e1 : ∀ (x : List Int) (h : j < x.length), x[j] = rd x (j : Int) := fun x h => by unfold rd; simp [List.getD, h]
  rw [List.getElem_map, e1 _ h1, this, e1 _ h2]
/-- The end of what is walked. -/
def endR (rs : List Int) (l : List S35) (x : Int) : Int × Int := if (pensR rs l x).2 = 0 then (lastD x (pensR rs l x).1.tail, 0) else (0, (pensR rs l x).2)
theorem walk_len : ∀ {rs : List Int} {l : List S35} {i : Nat} {x : Int} {ys : List Int}, walk rs l i x = some ys → ys.length = l.length
  | rs, [], i, x, ys, h => by simp only [walk, Option.some.injEq] at h; rw [← h]; rfl
  | rs, c :: l, i, x, ys, h => by
    simp only [walk] at h
    obtain ⟨y, _, h2⟩ := Option.bind_eq_some_iff.1 h
    obtain ⟨zs, h3, h4⟩ := Option.map_eq_some_iff.1 h2
    rw [← h4]
    simp [walk_len h3]
theorem end_tail {rs : List Int} {l : List S35} {x : Int} (hlen : l.length ≤ 100000) {bt : List Int × Int} (hb : bt = pensR rs l x) :
    (if bt.2 = 0 then (if 0 ≤ (wrap64 ((bt.1.length : Int) - 1)) then (if (wrap64 ((bt.1.length : Int) - 1)) < (bt.1.length : Int) then (some (rd bt.1 (wrap64 ((bt.1.length : Int) - 1)), (0 : Int))) else (none)) else (none)) else (some (0, bt.2))) = some (endR rs l x) := by
  subst hb
  unfold endR
  rcases pensR_or rs l x with ⟨e, he, _, hp⟩ | ⟨ys, hp, hw, _, _⟩
  · rw [hp, if_neg he, if_neg he]
  · rw [hp, if_pos rfl, if_pos rfl]
    have hy := walk_len hw
    have e1 : wrap64 (((x :: ys).length : Int) - 1) = (ys.length : Int) := by rw [ws (by simp only [List.length_cons]; omega) (by simp only [List.length_cons]; omega)]; simp only [List.length_cons]; omega
    simp only []
    rw [e1, if_pos (by omega), if_pos (by simp only [List.length_cons]; omega), rd_last]
    rfl
theorem end_eq {rs : List Int} {l : List S35} {x : Int} (hlen : l.length ≤ 100000) (hl : ∀ c ∈ l, okC c) (hx : in64 x) : tabs_End.f l rs x = some (endR rs l x) := by
  unfold tabs_End.f
  rw [pens_eq (by omega) hl hx]
  exact end_tail hlen rfl
theorem fits_eq {l : List S35} {x : Int} (hlen : l.length ≤ 100000) (hl : ∀ c ∈ l, okC c) (hx : in64 x) : trim_Fits.f l x = some (endR ((rolesZ true l).map unH) l x) := by
  unfold trim_Fits.f
  rw [roles_ev hlen, Option.bind_some, hangG_map, end_eq hlen hl hx]
  rfl
end Go.Proofs.Ytkegnlidlabjeaa.PureI
namespace Go.Proofs.Ytkegnlidlabjeaa.PureI
set_option linter.unusedVariables false
set_option linter.unusedSimpArgs false
open Go.RowKit Go.Proofs.YtkegnlidlabjeaaW.PrintWords Go.Proofs.YtkegnlidlabjeaaW.PrintLast Go.Proofs.YtkegnlidlabjeaaW.PrintMore Go.Proofs.Ytkegnlidlabjeaa.Hand Go.Proofs.Ytkegnlidlabjeaa.HIntr
theorem endP_fuel (l : List S35) (p : S35 → Bool) : ∀ (n n' : Nat) (t : Int), (l.length : Int) - t < n → (l.length : Int) - t < n' → endP l p n t = endP l p n' t
  | 0, 0, t, _, _ => rfl
  | 0, n' + 1, t, h, _ => by unfold endP; rw [if_neg (by omega)]
  | n + 1, 0, t, _, h => by
    have e : endP l p 0 t = t := rfl
    rw [e]; unfold endP; rw [if_neg (by omega)]
  | n + 1, n' + 1, t, h, h' => by
    unfold endP
    split
    · exact endP_fuel l p n n' (t + 1) (by omega) (by omega)
    · rfl
def eP (l : List S35) (p : S35 → Bool) (t : Int) : Int := endP l p (l.length + 1) t
def pP (l : List S35) (p : S35 → Bool) (i : Int) : List S50 := partsL l p (l.length + 1) i
theorem eP_ge (l : List S35) (p : S35 → Bool) {t : Int} (h : t ≤ (l.length : Int)) : t ≤ eP l p t ∧ eP l p t ≤ (l.length : Int) := endP_ge l p _ t h
theorem eP_go {l : List S35} {p : S35 → Bool} {t : Int} (h0 : 0 ≤ t) (h1 : t < (l.length : Int)) (h2 : (rd_T35 l (t - 1)).f0 ≠ 5) (h3 : p (rd_T35 l t) = false) : eP l p t = eP l p (t + 1) := by
  have e : eP l p t = endP l p l.length (t + 1) := by
    unfold eP
    conv => lhs; unfold endP
    rw [if_pos ⟨h1, h2, h3⟩]
  rw [e]
  exact endP_fuel l p _ _ _ (by omega) (by omega)
theorem eP_stop {l : List S35} {p : S35 → Bool} {t : Int} (h : ¬ (t < (l.length : Int) ∧ (rd_T35 l (t - 1)).f0 ≠ 5 ∧ p (rd_T35 l t) = false)) : eP l p t = t := by
  unfold eP endP
  rw [if_neg h]
theorem partsL_fuel (l : List S35) (p : S35 → Bool) : ∀ (n n' : Nat) (i : Int), i ≤ (l.length : Int) → (l.length : Int) - i < n → (l.length : Int) - i < n' → partsL l p n i = partsL l p n' i
  | 0, _, i, h, h1, _ => by omega
  | _, 0, i, h, _, h2 => by omega
  | n + 1, n' + 1, i, h, h1, h2 => by
    unfold partsL
    split
    · rename_i hi
      have := endP_ge l p (l.length + 1) (i + 1) (by omega)
      rw [partsL_fuel l p n n' _ this.2 (by omega) (by omega)]
    · rfl
theorem pP_cons {l : List S35} {p : S35 → Bool} {i : Int} (h0 : 0 ≤ i) (h : i < (l.length : Int)) : pP l p i = ⟨i, eP l p (i + 1)⟩ :: pP l p (eP l p (i + 1)) := by
  have hg := eP_ge l p (t := i + 1) (by omega)
  have e : pP l p i = ⟨i, eP l p (i + 1)⟩ :: partsL l p l.length (eP l p (i + 1)) := by
    unfold pP
    conv => lhs; unfold partsL
    rw [if_pos h]
    rfl
  rw [e]
  congr 1
  exact partsL_fuel l p _ _ _ hg.2 (by omega) (by omega)
theorem pP_nil {l : List S35} {p : S35 → Bool} {i : Int} (h : (l.length : Int) ≤ i) : pP l p i = [] := by
  unfold pP partsL
  rw [if_neg (by omega)]
theorem pP_in {l : List S35} {p : S35 → Bool} : ∀ x ∈ pP l p 0, 0 ≤ x.f0 ∧ x.f0 ≤ x.f1 ∧ x.f1 ≤ (l.length : Int) := partsL_in l p _ 0 (by omega) (by omega)
theorem lines_eq {l : List S35} (h : l.length ≤ 100000) : intrinsic_Lines.f l = some (pP l neverB 0) := by
  unfold intrinsic_Lines.f
  rw [if_pos (by omega)]; rfl
theorem pieces_eq {l : List S35} (h : l.length ≤ 100000) : intrinsic_Pieces.f l = some (pP l softB 0) := by
  unfold intrinsic_Pieces.f
  rw [if_pos (by omega)]; rfl
/-- How wide a part is. -/
def wide (s : List S35) : Int × Int := endR ((rolesZ true s).map unH) s 0
theorem wide_err (s : List S35) (h : (wide s).2 ≠ 0) : wide s = (0, (wide s).2) := by
  unfold wide at h ⊢
  unfold endR at h ⊢
  split
  · rename_i hz
    rw [if_pos hz] at h
    exact absurd rfl h
  · rfl
theorem sub_mem {l : List S35} {x : S50} {c : S35} (h : c ∈ subL l x) : c ∈ l := List.mem_of_mem_take (List.mem_of_mem_drop h)
theorem sub_len (l : List S35) (x : S50) : (subL l x).length ≤ l.length := by
  unfold subL
  rw [List.length_drop, List.length_take]
  omega
theorem fitX_eq {l : List S35} (hlen : l.length ≤ 100000) (hl : ∀ c ∈ l, okC c) (x : S50) : fitX l x = some (wide (subL l x)) := by
  unfold fitX
  rw [fits_eq (Nat.le_trans (sub_len l x) hlen) (fun c hc => hl c (sub_mem hc)) (by unfold in64; omega)]
  rfl
def widG (l : List S35) : List S50 → Int → Int × Int
  | [], n => (n, 0)
  | x :: xs, n => if (wide (subL l x)).2 = 0 then widG l xs (mx n (wide (subL l x)).1) else wide (subL l x)
theorem great_eq {l : List S35} (hlen : l.length ≤ 100000) (hl : ∀ c ∈ l, okC c) : ∀ (xs : List S50) (n : Int), greatO (fitX l) xs n = some (widG l xs n)
  | [], n => rfl
  | x :: xs, n => by
    simp only [greatO, widG]
    rw [fitX_eq hlen hl x, Option.bind_some]
    by_cases h : (wide (subL l x)).2 = 0
    · rw [if_pos h, if_pos h]; exact great_eq hlen hl xs _
    · rw [if_neg h, if_neg h]
def mmR (l : List S35) : Int × Int × Int :=
  if (widG l (pP l softB 0) 0).2 = 0 then (if (widG l (pP l neverB 0) (widG l (pP l softB 0) 0).1).2 = 0 then ((widG l (pP l softB 0) 0).1, (widG l (pP l neverB 0) (widG l (pP l softB 0) 0).1).1, 0) else (0, 0, (widG l (pP l neverB 0) (widG l (pP l softB 0) 0).1).2)) else (0, 0, (widG l (pP l softB 0) 0).2)
theorem mm_eq {l : List S35} (hlen : l.length ≤ 100000) (hl : ∀ c ∈ l, okC c) : intrinsic_MinMax.f l = some (mmR l) := by
  unfold intrinsic_MinMax.f mmR
  rw [if_pos (by omega), great_eq hlen hl, Option.bind_some]
  have e1 : partsL l softB (l.length + 1) 0 = pP l softB 0 := rfl
  have e2 : partsL l neverB (l.length + 1) 0 = pP l neverB 0 := rfl
  rw [e1, e2]
  by_cases h : (widG l (pP l softB 0) 0).2 = 0
  · rw [if_pos h, if_pos h, great_eq hlen hl, Option.bind_some]
    by_cases h2 : (widG l (pP l neverB 0) (widG l (pP l softB 0) 0).1).2 = 0
    · rw [if_pos h2, if_pos h2]
    · rw [if_neg h2, if_neg h2]
  · rw [if_neg h, if_neg h]
end Go.Proofs.Ytkegnlidlabjeaa.PureI
