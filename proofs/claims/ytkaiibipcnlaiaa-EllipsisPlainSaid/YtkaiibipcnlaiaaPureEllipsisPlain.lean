/- Plain laws of chapter 26: pens and roles, what fits, and the document's own answers. No condition of its own. -/
import Derived.Test.YtkaiibipcnlaiaaHEllx0
import Derived.Test.YtkaiibipcnlaiaaHEllx2
import Derived.Test.YtkaiibipcnlaiaaHEllx6
import Derived.Test.YtkaiibipcnlaiaaHEllx7
import Derived.Test.YtkaiibipcnlaiaaHEllx8
import Derived.Test.YtkaiibipcnlaiaaHEllx10
import Derived.Test.YtkaiibipcnlaiaaHEllx11
import Derived.Test.YtkaiibipcnlaiaaHEllx12
import Derived.Test.YtkaiibipcnlaiaaHEllx14
import Derived.Test.YtkaiibipcnlaiaaHEllx15
import Derived.Test.YtkaiibipcnlaiaaSayEll
import Derived.Test.YtkaiibipcnlaiaaHEllx24
namespace Go.Proofs.Ytkaiibipcnlaiaa.PureF
open Go.RowKit Go.Proofs.YtkaiibipcnlaiaaW.PrintWords Go.Proofs.YtkaiibipcnlaiaaW.PrintLast Go.Proofs.YtkaiibipcnlaiaaW.PrintMore Go.Proofs.Ytkaiibipcnlaiaa.Hand Go.Proofs.Ytkaiibipcnlaiaa.HEll
def fits (x : Int) : Prop := -4611686018427387904 ≤ x ∧ x ≤ 4611686018427387904
instance (x : Int) : Decidable (fits x) := by unfold fits; exact inferInstance
def fitO (s : Int) : Option Int := if fits s then some s else none
/-- The pen behind a cell that may be. -/
def nxt (c : S53) (x : Int) : Option Int := if c.f0 = 4 then (if c.f3 = 0 then some x else fitO (x - x % c.f3 + c.f3)) else fitO (x + c.f3)
def nxtR (r : Int) (c : S53) (x : Int) : Option Int := if r = 1 then some x else nxt c x
/-- The pens behind cells. -/
def walk (rs : List Int) : List S53 → Nat → Int → Option (List Int)
  | [], _, _ => some []
  | c :: l, i, x => (nxtR (roleAt rs i) c x).bind fun y => (walk rs l (i + 1) y).map (y :: ·)
def pensR (rs : List Int) (l : List S53) (x : Int) : List Int × Int :=
  if l.any badTab then ([], 2) else if fits x then (match walk rs l 0 x with | some ys => (x :: ys, 0) | none => ([], 10)) else ([], 10)
def okC (c : S53) : Prop := in64 c.f3

theorem ws {x : Int} (h1 : -9223372036854775808 ≤ x) (h2 : x ≤ 9223372036854775807) : wrap64 x = x := by
  unfold wrap64
  omega
theorem sum_ok {l : List Int} (h : ∀ x ∈ l, in64 x) (hl : l.length ≤ 1000) : unit_Sum.f l = some (if fits l.sum then (l.sum, 0) else (0, 10)) := by
  unfold unit_Sum.f
  rw [if_pos ⟨h, by omega⟩]
  by_cases hf : fits l.sum
  · rw [if_pos hf]; exact if_pos hf
  · rw [if_neg hf]; exact if_neg hf
theorem in_of_fits {x : Int} (h : fits x) : in64 x := by unfold fits at h; unfold in64; omega
theorem tmod_cases {x d : Int} (hd : 0 < d) : (x.tmod d < 0 ∧ x % d = x.tmod d + d) ∨ (¬ x.tmod d < 0 ∧ x % d = x.tmod d) := by
  have h1 : 0 ≤ x % d := Int.emod_nonneg x (by omega)
  have h2 : x % d < d := Int.emod_lt_of_pos x hd
  rcases Int.le_total 0 x with hx | hx
  · right
    rw [Int.tmod_eq_emod_of_nonneg hx]
    exact ⟨by omega, rfl⟩
  · have e : x.tmod d = -((-x).tmod d) := by rw [Int.neg_tmod]; omega
    rw [Int.tmod_eq_emod_of_nonneg (show 0 ≤ -x by omega)] at e
    have h3 : 0 ≤ (-x) % d := Int.emod_nonneg (-x) (by omega)
    have h4 : (-x) % d < d := Int.emod_lt_of_pos (-x) hd
    have h5 : ((-x) % d + x % d) % d = 0 := by rw [← Int.add_emod]; simp [Int.add_left_neg]
    by_cases hz : (-x) % d = 0
    · right
      rw [hz] at h5 e
      rw [Int.zero_add, Int.emod_emod_of_dvd x (Int.dvd_refl d)] at h5
      omega
    · left
      have h6 : (-x) % d + x % d = d := by
        by_cases hc : (-x) % d + x % d < d
        · rw [Int.emod_eq_of_lt (by omega) hc] at h5
          omega
        · have : ((-x) % d + x % d - d) % d = 0 := by rw [Int.sub_emod_right]; exact h5
          rw [Int.emod_eq_of_lt (by omega) (by omega)] at this
          omega
      omega
theorem step_eq {c : S53} (hc : okC c) (hb : badTab c = false) {x : Int} (hx : fits x) : stepC c x = some (match nxt c x with | some y => (y, 0) | none => (0, 10)) := by
  have hx1 := in_of_fits hx
  have s1 : unit_Sum.f [x] = some (x, 0) := by
    rw [sum_ok (by simpa using hx1) (by simp)]
    simp only [List.sum_cons, List.sum_nil, Int.add_zero]
    rw [if_pos hx]
  unfold stepC tabs_Step.f nxt
  rw [s1]
  simp only [Option.bind_some]
  by_cases h4 : c.f0 = 4
  · rw [if_pos h4, if_pos h4]
    have h3 : ¬ c.f3 < 0 := by
      intro h
      unfold badTab at hb
      rw [h4, decide_eq_true h] at hb
      cases hb
    rw [decide_eq_false h3]
    simp only [tabs_Step.j0]
    rw [if_neg (by decide), if_pos h4, if_pos trivial]
    by_cases h0 : c.f3 = 0
    · rw [if_pos h0, if_pos h0]
    · rw [if_neg h0, if_neg h0]
      have hd : 0 < c.f3 := by omega
      have hi : c.f3 ≤ 9223372036854775807 := hc.2
      have hm1 : 0 ≤ x % c.f3 := Int.emod_nonneg x (by omega)
      have hm2 : x % c.f3 < c.f3 := Int.emod_lt_of_pos x hd
      have key : unit_Stop.f x c.f3 = some (if fits (x - x % c.f3 + c.f3) then (x - x % c.f3 + c.f3, 0) else (0, 10)) := by
        unfold unit_Stop.f
        rw [if_neg (by omega), if_neg h0]
        rcases tmod_cases (x := x) hd with ⟨ht, he⟩ | ⟨ht, he⟩
        · rw [if_pos ht, show wrap64 (x.tmod c.f3 + c.f3) = x % c.f3 by rw [he]; exact ws (by omega) (by omega), ws (x := -(x % c.f3)) (by omega) (by omega), sum_ok (by
            intro y hy
            simp at hy
            rcases hy with rfl | rfl | rfl
            · exact hx1
            · unfold in64; omega
            · exact hc) (by simp)]
          have es : [x, -(x % c.f3), c.f3].sum = x - x % c.f3 + c.f3 := by simp; omega
          rw [es]
          simp only [Option.bind_some]
        · rw [if_neg ht, ← he, ws (x := -(x % c.f3)) (by omega) (by omega), sum_ok (by
            intro y hy
            simp at hy
            rcases hy with rfl | rfl | rfl
            · exact hx1
            · unfold in64; omega
            · exact hc) (by simp)]
          have es : [x, -(x % c.f3), c.f3].sum = x - x % c.f3 + c.f3 := by simp; omega
          rw [es]
          simp only [Option.bind_some]
      rw [key]
      unfold fitO
      by_cases hf : fits (x - x % c.f3 + c.f3)
      · rw [if_pos hf, if_pos hf]; rfl
      · rw [if_neg hf, if_neg hf]; rfl
  · rw [if_neg h4, if_neg h4]
    simp only [tabs_Step.j0]
    rw [if_neg (by decide), if_neg h4, sum_ok (by
      intro y hy
      simp at hy
      rcases hy with rfl | rfl
      · exact hx1
      · exact hc) (by simp)]
    have es : [x, c.f3].sum = x + c.f3 := by simp
    rw [es]
    unfold fitO
    by_cases hf : fits (x + c.f3)
    · rw [if_pos hf, if_pos hf]; rfl
    · rw [if_neg hf, if_neg hf]; rfl
theorem nxt_fits {c : S53} {x y : Int} (hx : fits x) (h : nxt c x = some y) : fits y := by
  unfold nxt fitO at h
  split at h
  · split at h
    · cases h; exact hx
    · split at h
      · cases h; assumption
      · cases h
  · split at h
    · cases h; assumption
    · cases h
theorem nxtR_fits {r : Int} {c : S53} {x y : Int} (hx : fits x) (h : nxtR r c x = some y) : fits y := by
  unfold nxtR at h
  split at h
  · cases h; exact hx
  · exact nxt_fits hx h
theorem pen_eq {c : S53} (hc : okC c) (hb : badTab c = false) {r x : Int} (hx : fits x) : penOf c r x = some (match nxtR r c x with | some y => (y, 0) | none => (0, 10)) := by
  unfold penOf nxtR
  by_cases h : r = 1
  · rw [if_pos h, if_pos h]
  · rw [if_neg h, if_neg h]; exact step_eq hc hb hx
theorem lastE_cons {p : Int × Int} {ps : List (Int × Int)} (h : lastE ps = 10) : lastE (p :: ps) = 10 := by
  cases ps with
  | nil => cases h
  | cons q qs => exact h
theorem pensL_eq (rs : List Int) : ∀ (l : List S53) (i : Nat) (x : Int), (∀ c ∈ l, okC c ∧ badTab c = false) → fits x →
    ∃ ps, pensL rs l i x = some ps ∧ (match walk rs l i x with | some ys => ps = ys.map (fun y => (y, 0)) | none => lastE ps = 10)
  | [], i, x, _, _ => ⟨[], rfl, rfl⟩
  | c :: l, i, x, hl, hx => by
    obtain ⟨hc, hb⟩ := hl c (List.mem_cons_self ..)
    have hl2 : ∀ c ∈ l, okC c ∧ badTab c = false := fun d hd => hl d (List.mem_cons_of_mem _ hd)
    simp only [pensL, walk]
    rw [pen_eq hc hb hx]
    cases hn : nxtR (roleAt rs i) c x with
    | none => exact ⟨[(0, 10)], by simp, by simp [lastE]⟩
    | some y =>
      obtain ⟨ps, h1, h2⟩ := pensL_eq rs l (i + 1) y hl2 (nxtR_fits hx hn)
      refine ⟨(y, 0) :: ps, by simp [h1], ?_⟩
      simp only [Option.bind_some]
      cases hw : walk rs l (i + 1) y with
      | none => rw [hw] at h2; exact lastE_cons h2
      | some ys => rw [hw] at h2; simp only [Option.map_some]; rw [h2]; rfl
theorem pens_eq {l : List S53} {rs : List Int} {x : Int} (hlen : l.length ≤ 1000000000000) (hl : ∀ c ∈ l, okC c) (hx : in64 x) : tabs_Pens.f l rs x = some (pensR rs l x) := by
  unfold tabs_Pens.f pensR
  rw [if_pos hlen]
  by_cases hb : l.any badTab = true
  · rw [if_pos hb, if_pos hb]
  · rw [if_neg hb, if_neg hb]
    have s1 : unit_Sum.f [x] = some (if fits x then (x, 0) else (0, 10)) := by
      rw [sum_ok (by simpa using hx) (by simp)]
      simp
    rw [s1]
    by_cases hf : fits x
    · rw [if_pos hf, if_pos hf]
      simp only [Option.bind_some, if_true]
      have hl2 : ∀ c ∈ l, okC c ∧ badTab c = false := fun c hc => ⟨hl c hc, by
        cases h : badTab c with
        | false => rfl
        | true => exact absurd (List.any_eq_true.2 ⟨c, hc, h⟩) hb⟩
      obtain ⟨ps, h1, h2⟩ := pensL_eq rs l 0 x hl2 hf
      rw [h1]
      simp only [Option.bind_some]
      cases hw : walk rs l 0 x with
      | none => rw [hw] at h2; simp only at h2; rw [h2]; rfl
      | some ys =>
        rw [hw] at h2
        simp only at h2
        have hz : lastE ps = 0 := lastE_zero (fun q hq => by rw [h2] at hq; obtain ⟨y, _, rfl⟩ := List.mem_map.1 hq; rfl)
        rw [if_pos hz, h2, List.map_map]
        congr 2
        exact congrArg _ (List.map_id'' (fun _ => rfl) ys)
    · rw [if_neg hf, if_neg hf]
      simp
end Go.Proofs.Ytkaiibipcnlaiaa.PureF

namespace Go.Proofs.Ytkaiibipcnlaiaa.PureF
open Go.RowKit Go.Proofs.YtkaiibipcnlaiaaW.PrintWords Go.Proofs.YtkaiibipcnlaiaaW.PrintLast Go.Proofs.YtkaiibipcnlaiaaW.PrintMore Go.Proofs.Ytkaiibipcnlaiaa.Hand Go.Proofs.Ytkaiibipcnlaiaa.HEll
theorem i64_of {n : Int} (h : (Lit.int .i64 n).wf = true) : in64 n := by
  have h2 : IntKind.i64.min ≤ n ∧ n ≤ IntKind.i64.max := by simpa [Lit.wf] using h
  have e1 : IntKind.i64.min = -9223372036854775808 := rfl
  have e2 : IntKind.i64.max = 9223372036854775807 := rfl
  unfold in64
  omega
theorem okC_of {c : S53} (h : W53 c) : okC c := i64_of h.2.2.2.1
theorem head_ev : Ev (fun k => stickfullaw26_head.f k) true := Ev.of (fun k => stickfullaw26_head.mono k) (k := 100) (by kernel_rfl)
theorem head_ev2 : Ev (fun k => (stickfullaw26_head.f k).bind fun t => some t) true := Ev.bind head_ev (Ev.now true)
theorem w1 {n : Nat} (h : n ≤ 1000000000) : wrap64 ((n : Int) + 1) = ((n + 1 : Nat) : Int) := by rw [ws (by omega) (by omega)]; rfl
def lastD : Int → List Int → Int
  | x, [] => x
  | _, y :: ys => lastD y ys
theorem rd_last : ∀ (x : Int) (ys : List Int), rd (x :: ys) ((ys.length : Nat) : Int) = lastD x ys
  | x, [] => rfl
  | x, y :: ys => by
    rw [lastD, ← rd_last y ys]
    unfold rd
    simp [List.getD]
/-- What Pens tells: an error and no pens, or all pens. -/
theorem pensR_or (rs : List Int) (l : List S53) (x : Int) :
    (∃ e, e ≠ 0 ∧ (e = 2 ∨ e = 10) ∧ pensR rs l x = ([], e)) ∨ (∃ ys, pensR rs l x = (x :: ys, 0) ∧ walk rs l 0 x = some ys ∧ fits x ∧ l.any badTab = false) := by
  unfold pensR
  by_cases hb : l.any badTab = true
  · rw [if_pos hb]; exact .inl ⟨2, by decide, .inl rfl, rfl⟩
  · rw [if_neg hb]
    by_cases hf : fits x
    · rw [if_pos hf]
      cases walk rs l 0 x with
      | none => exact .inl ⟨10, by decide, .inr rfl, rfl⟩
      | some ys => exact .inr ⟨ys, rfl, rfl, hf, by simpa using hb⟩
    · rw [if_neg hf]; exact .inl ⟨10, by decide, .inr rfl, rfl⟩
end Go.Proofs.Ytkaiibipcnlaiaa.PureF

namespace Go.Proofs.Ytkaiibipcnlaiaa.PureF
set_option linter.unusedVariables false
set_option linter.unusedSimpArgs false
open Go.RowKit Go.Proofs.YtkaiibipcnlaiaaW.PrintWords Go.Proofs.YtkaiibipcnlaiaaW.PrintLast Go.Proofs.YtkaiibipcnlaiaaW.PrintMore Go.Proofs.Ytkaiibipcnlaiaa.Hand Go.Proofs.Ytkaiibipcnlaiaa.HEll
/-- The role of a cell behind cells that are blank or not, ahead of others. -/
def roleZ (a : Bool) (c : S53) (s : List S53) : Int :=
  if c.f0 = 1 ∧ (a = true ∨ s.all blankB = true) then 1 else if c.f0 = 2 ∧ s.all hangB = true then 2 else 0
def rolesZ : Bool → List S53 → List Int
  | _, [] => []
  | a, c :: s => roleZ a c s :: rolesZ (a && blankB c) s
theorem rolesZ_len : ∀ (a : Bool) (l : List S53), (rolesZ a l).length = l.length
  | _, [] => rfl
  | a, c :: s => by simp [rolesZ, rolesZ_len (a && blankB c) s]
theorem rd_nat (l : List S53) {i : Nat} (hi : i < l.length) : rd_T53 l (i : Int) = l[i] := by
  unfold rd_T53
  simp [List.getD, hi]
theorem rolesZ_get : ∀ (a : Bool) (l : List S53) (i : Nat) (hi : i < l.length), rd (rolesZ a l) (i : Int) = roleZ (a && (l.take i).all blankB) l[i] (l.drop (i + 1))
  | _, [], i, hi => by simp at hi
  | a, c :: s, 0, hi => by simp [rolesZ, rd]
  | a, c :: s, i + 1, hi => by
    have h := rolesZ_get (a && blankB c) s i (by simpa using hi)
    simp only [rolesZ]
    have e : rd (roleZ a c s :: rolesZ (a && blankB c) s) ((i + 1 : Nat) : Int) = rd (rolesZ (a && blankB c) s) (i : Int) := by
      unfold rd
      simp [List.getD]
    rw [e, h]
    simp [List.take_succ_cons, Bool.and_assoc]
/-- The ways from the front, and from the back. -/
theorem way_up (l : List S53) (p : S53 → Bool) : ∀ (n : Nat) (i : Int), 0 ≤ i → (l.length : Int) - i < n → ∀ j : Int, j ∈ wayL l p 1 n i ↔ i ≤ j ∧ j < (l.length : Int) ∧ ∀ m : Int, i ≤ m → m ≤ j → p (rd_T53 l m) = true
  | 0, i, h0, hn, j => by
    simp only [wayL, List.not_mem_nil, false_iff]
    rintro ⟨h1, h2, h3⟩
    omega
  | n + 1, i, h0, hn, j => by
    have ih := way_up l p n (i + 1) (by omega) (by omega) j
    simp only [wayL]
    by_cases hc : 0 ≤ i ∧ i < (l.length : Int) ∧ p (rd_T53 l i) = true
    · rw [if_pos hc, List.mem_cons, ih]
      constructor
      · rintro (rfl | ⟨h1, h2, h3⟩)
        · exact ⟨by omega, hc.2.1, fun m h4 h5 => by rw [show m = j by omega]; exact hc.2.2⟩
        · exact ⟨by omega, h2, fun m h4 h5 => by
            by_cases hm : m = i
            · rw [hm]; exact hc.2.2
            · exact h3 m (by omega) h5⟩
      · rintro ⟨h1, h2, h3⟩
        by_cases hj : j = i
        · exact .inl hj
        · exact .inr ⟨by omega, h2, fun m h4 h5 => h3 m (by omega) h5⟩
    · rw [if_neg hc]
      simp only [List.not_mem_nil, false_iff]
      rintro ⟨h1, h2, h3⟩
      exact hc ⟨h0, by omega, h3 i (by omega) (by omega)⟩
theorem way_down (l : List S53) (p : S53 → Bool) : ∀ (n : Nat) (i : Int), i < (l.length : Int) → -1 ≤ i → i + 1 < n → ∀ j : Int, j ∈ wayL l p (-1) n i ↔ 0 ≤ j ∧ j ≤ i ∧ ∀ m : Int, j ≤ m → m ≤ i → p (rd_T53 l m) = true
  | 0, i, h0, h1, hn, j => by omega
  | n + 1, i, h0, h1, hn, j => by
    simp only [wayL]
    by_cases hc : 0 ≤ i ∧ i < (l.length : Int) ∧ p (rd_T53 l i) = true
    · have ih := way_down l p n (i + -1) (by omega) (by omega) (by omega) j
      rw [if_pos hc, List.mem_cons, ih]
      constructor
      · rintro (rfl | ⟨h1, h2, h3⟩)
        · exact ⟨hc.1, by omega, fun m h4 h5 => by rw [show m = j by omega]; exact hc.2.2⟩
        · exact ⟨h1, by omega, fun m h4 h5 => by
            by_cases hm : m = i
            · rw [hm]; exact hc.2.2
            · exact h3 m h4 (by omega)⟩
      · rintro ⟨h1, h2, h3⟩
        by_cases hj : j = i
        · exact .inl hj
        · exact .inr ⟨h1, by omega, fun m h4 h5 => h3 m h4 (by omega)⟩
    · rw [if_neg hc]
      simp only [List.not_mem_nil, false_iff]
      rintro ⟨h1, h2, h3⟩
      exact hc ⟨by omega, h0, h3 i (by omega) (by omega)⟩
theorem markL_len (l : List S53) (kind role : Int) : ∀ (is out : List Int), (markL l kind role is out).length = out.length
  | [], out => rfl
  | i :: is, out => by
    have := markL_len l kind role is (if (rd_T53 l i).f0 = kind then out.set i.toNat role else out)
    unfold markL at this ⊢
    rw [List.foldl_cons, this]
    split <;> simp
theorem rd_set (out : List Int) (i j : Nat) (v : Int) (hj : j < out.length) : rd (out.set i v) (j : Int) = if i = j then v else rd out (j : Int) := by
  unfold rd
  simp only [Int.toNat_natCast, List.getD_eq_getElem?_getD, List.getElem?_set]
  by_cases h : i = j
  · subst h; simp [hj]
  · simp [h]
theorem markL_get (l : List S53) (kind role : Int) (j : Nat) : ∀ (is out : List Int), (∀ i ∈ is, 0 ≤ i) → j < out.length → rd (markL l kind role is out) (j : Int) = if (j : Int) ∈ is ∧ (rd_T53 l (j : Int)).f0 = kind then role else rd out (j : Int)
  | [], out, _, hj => by simp [markL]
  | i :: is, out, hi, hj => by
    have hi0 : 0 ≤ i := hi i (List.mem_cons_self ..)
    have ih := markL_get l kind role j is (if (rd_T53 l i).f0 = kind then out.set i.toNat role else out) (fun x hx => hi x (List.mem_cons_of_mem _ hx)) (by split <;> simpa using hj)
    have e : markL l kind role (i :: is) out = markL l kind role is (if (rd_T53 l i).f0 = kind then out.set i.toNat role else out) := rfl
    rw [e, ih]
    by_cases hm : (j : Int) ∈ is
    · simp only [hm, List.mem_cons, or_true, true_and]
      by_cases hk : (rd_T53 l (j : Int)).f0 = kind
      · rw [if_pos hk, if_pos hk]
      · rw [if_neg hk, if_neg hk]
        by_cases h2 : (rd_T53 l i).f0 = kind
        · rw [if_pos h2, rd_set _ _ _ _ hj, if_neg (fun h => hk (by rw [show (j : Int) = i by omega]; exact h2))]
        · rw [if_neg h2]
    · rw [if_neg (fun h => hm h.1)]
      by_cases hij : (j : Int) = i
      · subst hij
        by_cases hk : (rd_T53 l (j : Int)).f0 = kind
        · rw [if_pos hk, if_pos ⟨List.mem_cons_self .., hk⟩, Int.toNat_natCast, rd_set _ _ _ _ hj, if_pos rfl]
        · rw [if_neg hk, if_neg (fun h => hk h.2)]
      · have hnot : ¬ ((j : Int) ∈ i :: is ∧ (rd_T53 l (j : Int)).f0 = kind) := fun h => by
          rcases List.mem_cons.1 h.1 with h3 | h3
          · exact hij h3
          · exact hm h3
        rw [if_neg hnot]
        by_cases h2 : (rd_T53 l i).f0 = kind
        · rw [if_pos h2, rd_set _ _ _ _ hj, if_neg (by omega)]
        · rw [if_neg h2]
theorem all_take (l : List S53) (p : S53 → Bool) (j : Nat) (hj : j < l.length) : (∀ m : Int, 0 ≤ m → m ≤ (j : Int) → p (rd_T53 l m) = true) ↔ (l.take j).all p = true ∧ p l[j] = true := by
  rw [List.all_eq_true]
  constructor
  · intro h
    refine ⟨fun x hx => ?_, by have := h j (by omega) (by omega); rw [rd_nat l hj] at this; exact this⟩
    obtain ⟨i, hi, rfl⟩ := List.getElem_of_mem hx
    rw [List.length_take] at hi
    have := h (i : Int) (by omega) (by omega)
    rw [rd_nat l (by omega)] at this
    rw [List.getElem_take]
    exact this
  · rintro ⟨h1, h2⟩ m hm0 hm1
    obtain ⟨i, rfl⟩ := Int.eq_ofNat_of_zero_le hm0
    rw [rd_nat l (by omega)]
    by_cases hij : i = j
    · subst hij; exact h2
    · exact h1 _ (List.mem_take_iff_getElem.2 ⟨i, by omega, rfl⟩)
theorem all_drop (l : List S53) (p : S53 → Bool) (j : Nat) (hj : j < l.length) : (∀ m : Int, (j : Int) ≤ m → m ≤ (l.length : Int) - 1 → p (rd_T53 l m) = true) ↔ p l[j] = true ∧ (l.drop (j + 1)).all p = true := by
  rw [List.all_eq_true]
  constructor
  · intro h
    refine ⟨by have := h j (by omega) (by omega); rw [rd_nat l hj] at this; exact this, fun x hx => ?_⟩
    obtain ⟨i, hi, rfl⟩ := List.getElem_of_mem hx
    rw [List.length_drop] at hi
    have := h ((j + 1 + i : Nat) : Int) (by omega) (by omega)
    rw [rd_nat l (by omega)] at this
    rw [List.getElem_drop]
    exact this
  · rintro ⟨h1, h2⟩ m hm0 hm1
    obtain ⟨i, rfl⟩ := Int.eq_ofNat_of_zero_le (show 0 ≤ m by omega)
    rw [rd_nat l (by omega)]
    by_cases hij : i = j
    · subst hij; exact h1
    · refine h2 _ (List.mem_drop_iff_getElem.2 ⟨i - (j + 1), by omega, ?_⟩)
      congr 1
      omega
theorem blank_of1 {c : S53} (h : c.f0 = 1) : blankB c = true := by unfold blankB; simp [h]
theorem hang_of2 {c : S53} (h : c.f0 = 2) : hangB c = true := by unfold hangB; simp [h]
theorem rolesL_eq (l : List S53) : rolesL l = rolesZ true l := by
  have hlen : (rolesL l).length = l.length := by unfold rolesL; rw [markL_len, markL_len, markL_len, List.length_replicate]
  refine List.ext_getElem (by rw [hlen, rolesZ_len]) fun j h1 h2 => ?_
  have hj : j < l.length := by omega
  have e1 : ∀ (x : List Int) (h : j < x.length), x[j] = rd x (j : Int) := fun x h => by unfold rd; simp [List.getD, h]
  rw [e1 _ h1, e1 _ h2, rolesZ_get true l j hj]
  have hup : ∀ i ∈ wayL l blankB 1 (l.length + 1) 0, 0 ≤ i := fun i hi => ((way_up l blankB _ 0 (by omega) (by omega) i).1 hi).1
  have hdn : ∀ p, ∀ i ∈ wayL l p (-1) (l.length + 1) ((l.length : Int) - 1), 0 ≤ i := fun p i hi => ((way_down l p _ ((l.length : Int) - 1) (by omega) (by omega) (by omega) i).1 hi).1
  unfold rolesL
  rw [markL_get _ _ _ _ _ _ (hdn _) (by rw [markL_len, markL_len, List.length_replicate]; exact hj), markL_get _ _ _ _ _ _ (hdn _) (by rw [markL_len, List.length_replicate]; exact hj), markL_get _ _ _ _ _ _ hup (by rw [List.length_replicate]; exact hj)]
  have a1 := all_take l blankB j hj
  have a2 := all_drop l blankB j hj
  have a3 := all_drop l hangB j hj
  have q1 : (j : Int) ∈ wayL l hangB (-1) (l.length + 1) ((l.length : Int) - 1) ↔ (hangB l[j] = true ∧ (l.drop (j + 1)).all hangB = true) := (way_down l hangB (l.length + 1) ((l.length : Int) - 1) (by omega) (by omega) (by omega) (j : Int)).trans ⟨fun h => a3.1 h.2.2, fun h => ⟨by omega, by omega, a3.2 h⟩⟩
  have q2 : (j : Int) ∈ wayL l blankB (-1) (l.length + 1) ((l.length : Int) - 1) ↔ (blankB l[j] = true ∧ (l.drop (j + 1)).all blankB = true) := (way_down l blankB (l.length + 1) ((l.length : Int) - 1) (by omega) (by omega) (by omega) (j : Int)).trans ⟨fun h => a2.1 h.2.2, fun h => ⟨by omega, by omega, a2.2 h⟩⟩
  have q3 : (j : Int) ∈ wayL l blankB 1 (l.length + 1) 0 ↔ ((l.take j).all blankB = true ∧ blankB l[j] = true) := (way_up l blankB (l.length + 1) 0 (by omega) (by omega) (j : Int)).trans ⟨fun h => a1.1 h.2.2, fun h => ⟨by omega, by omega, a1.2 h⟩⟩
  have cond : ∀ {p q : Prop} [hp : Decidable p] [hq : Decidable q] (_ : p ↔ q) (a b : Int), @ite Int p hp a b = @ite Int q hq a b := by
    intro p q hp hq h a b
    by_cases hh : p
    · rw [if_pos hh, if_pos (h.1 hh)]
    · rw [if_neg hh, if_neg (fun x => hh (h.2 x))]
  have z : rd (List.replicate l.length (0 : Int)) (j : Int) = 0 := by unfold rd; simp [List.getD, hj]
  have ef : (rd_T53 l (j : Int)).f0 = l[j].f0 := by rw [rd_nat l hj]
  rw [cond (and_congr_left' q1), cond (and_congr_left' q2), cond (and_congr_left' q3), z]
  simp only [ef]
  unfold roleZ
  by_cases k1 : l[j].f0 = 1
  · have k2 : ¬ l[j].f0 = 2 := by omega
    have kb := blank_of1 k1
    simp only [k1, kb]
    by_cases c1 : (l.drop (j + 1)).all blankB = true <;> by_cases c2 : (l.take j).all blankB = true <;> simp [c1, c2]
  · by_cases k2 : l[j].f0 = 2
    · have kb := hang_of2 k2
      simp only [k2, kb]
      by_cases c1 : (l.drop (j + 1)).all hangB = true <;> simp [c1]
    · simp [k1, k2]
theorem roles_ev {l : List S53} (hl : l.length ≤ 100000) : trim_Roles.f l = some (rolesZ true l) := by
  unfold trim_Roles.f
  rw [if_pos (by omega), rolesL_eq]
/-- What hangs is gone. -/
def unH (r : Int) : Int := if r = 2 then 1 else r
theorem hangG_len (t : List Int) : ∀ n, (hangG t n).length = t.length
  | 0 => rfl
  | n + 1 => by
    simp only [hangG]
    split <;> simp [hangG_len t n]
theorem hangG_get (t : List Int) (j : Nat) (hj : j < t.length) : ∀ n, n ≤ t.length → rd (hangG t n) (j : Int) = if j < n then unH (rd t (j : Int)) else rd t (j : Int)
  | 0, _ => by simp [hangG]
  | n + 1, hn => by
    have ih := hangG_get t j hj n (by omega)
    have en : ∀ x : List Int, rdOf (0 : Int) x (n : Int) = rd x (n : Int) := fun x => rfl
    simp only [hangG]
    rw [en]
    by_cases hjn : j = n
    · subst hjn
      rw [if_neg (by omega)] at ih
      rw [ih, if_pos (show j < j + 1 by omega)]
      unfold unH
      by_cases h2 : rd t (j : Int) = 2
      · rw [if_pos h2, if_pos h2, rd_set _ _ _ _ (by rw [hangG_len]; exact hj), if_pos rfl]
      · rw [if_neg h2, if_neg h2, ih]
    · have e : (j < n + 1) = (j < n) := by apply propext; omega
      simp only [e]
      rw [← ih]
      split
      · rw [rd_set _ _ _ _ (by rw [hangG_len]; exact hj), if_neg (by omega)]
      · rfl
theorem hangG_map (t : List Int) : hangG t t.length = t.map unH := by
  refine List.ext_getElem (by rw [hangG_len, List.length_map]) fun j h1 h2 => ?_
  rw [List.length_map] at h2
  have := hangG_get t j h2 t.length (Nat.le_refl _)
  rw [if_pos h2] at this
  have e1 : ∀ (x : List Int) (h : j < x.length), x[j] = rd x (j : Int) := fun x h => by unfold rd; simp [List.getD, h]
  rw [List.getElem_map, e1 _ h1, this, e1 _ h2]
/-- The end of what is walked. -/
def endR (rs : List Int) (l : List S53) (x : Int) : Int × Int := if (pensR rs l x).2 = 0 then (lastD x (pensR rs l x).1.tail, 0) else (0, (pensR rs l x).2)
theorem walk_len : ∀ {rs : List Int} {l : List S53} {i : Nat} {x : Int} {ys : List Int}, walk rs l i x = some ys → ys.length = l.length
  | rs, [], i, x, ys, h => by simp only [walk, Option.some.injEq] at h; rw [← h]; rfl
  | rs, c :: l, i, x, ys, h => by
    simp only [walk] at h
    obtain ⟨y, _, h2⟩ := Option.bind_eq_some_iff.1 h
    obtain ⟨zs, h3, h4⟩ := Option.map_eq_some_iff.1 h2
    rw [← h4]
    simp [walk_len h3]
theorem end_tail {rs : List Int} {l : List S53} {x : Int} (hlen : l.length ≤ 100000) {bt : List Int × Int} (hb : bt = pensR rs l x) :
    (if bt.2 = 0 then (if 0 ≤ (wrap64 ((bt.1.length : Int) - 1)) then (if (wrap64 ((bt.1.length : Int) - 1)) < (bt.1.length : Int) then (some (rd bt.1 (wrap64 ((bt.1.length : Int) - 1)), (0 : Int))) else (none)) else (none)) else (some (0, bt.2))) = some (endR rs l x) := by
  subst hb
  unfold endR
  rcases pensR_or rs l x with ⟨e, he, _, hp⟩ | ⟨ys, hp, hw, _, _⟩
  · rw [hp, if_neg he, if_neg he]
  · rw [hp, if_pos rfl, if_pos rfl]
    have hy := walk_len hw
    have e1 : wrap64 (((x :: ys).length : Int) - 1) = (ys.length : Int) := by rw [ws (by simp only [List.length_cons]; omega) (by simp only [List.length_cons]; omega)]; simp only [List.length_cons]; omega
    simp only []
    rw [e1, if_pos (by omega), if_pos (by simp only [List.length_cons]; omega), rd_last]
    rfl
theorem end_eq {rs : List Int} {l : List S53} {x : Int} (hlen : l.length ≤ 100000) (hl : ∀ c ∈ l, okC c) (hx : in64 x) : tabs_End.f l rs x = some (endR rs l x) := by
  unfold tabs_End.f
  rw [pens_eq (by omega) hl hx]
  exact end_tail hlen rfl
theorem fits_eq {l : List S53} {x : Int} (hlen : l.length ≤ 100000) (hl : ∀ c ∈ l, okC c) (hx : in64 x) : trim_Fits.f l x = some (endR ((rolesZ true l).map unH) l x) := by
  unfold trim_Fits.f
  rw [roles_ev hlen, Option.bind_some, hangG_map, end_eq hlen hl hx]
  rfl
end Go.Proofs.Ytkaiibipcnlaiaa.PureF

namespace Go.Proofs.Ytkaiibipcnlaiaa.PureF
set_option linter.unusedVariables false
set_option linter.unusedSimpArgs false
open Go.RowKit Go.Proofs.YtkaiibipcnlaiaaW.PrintWords Go.Proofs.YtkaiibipcnlaiaaW.PrintLast Go.Proofs.YtkaiibipcnlaiaaW.PrintMore Go.Proofs.Ytkaiibipcnlaiaa.Hand Go.Proofs.Ytkaiibipcnlaiaa.HEll
end Go.Proofs.Ytkaiibipcnlaiaa.PureF
namespace Go.Proofs.Ytkaiibipcnlaiaa.PureF
set_option linter.unusedVariables false
set_option linter.unusedSimpArgs false
open Go.RowKit Go.Proofs.YtkaiibipcnlaiaaW.PrintWords Go.Proofs.YtkaiibipcnlaiaaW.PrintLast Go.Proofs.YtkaiibipcnlaiaaW.PrintMore Go.Proofs.Ytkaiibipcnlaiaa.Hand Go.Proofs.Ytkaiibipcnlaiaa.HEll
def nz (own : List S53) (st : Int) : Int × Int := endR ((rolesZ true own).map unH) own st
def pz (own : List S53) (st : Int) : List Int × Int := pensR (rolesZ true own) own st
def cutV (own : List S53) (l1 : List Bool) (fr te wd st dots : Int) : Int × Int × Bool × Int :=
  if (nz own st).2 = 0 then (if (pz own st).2 = 0 then (cutTo (pz own st).1 l1 fr te (nz own st).1 wd dots, rd (pz own st).1 (cutTo (pz own st).1 l1 fr te (nz own st).1 wd dots - fr), decide ((nz own st).1 > wd), 0) else (0, 0, false, (pz own st).2)) else (0, 0, false, (nz own st).2)
def cutZ (l0 : List S53) (l1 : List Bool) (fr te wd st dots : Int) : Int × Int × Bool × Int :=
  if cutOk l0 l1 fr te wd dots then cutV (segC l0 fr te) l1 fr te wd st dots else (0, 0, false, 2)
theorem segC_ok {l0 : List S53} (hl : ∀ c ∈ l0, okC c) (fr te : Int) : ∀ c ∈ segC l0 fr te, okC c := fun c hc => hl c (List.mem_of_mem_take (List.mem_of_mem_drop hc))
theorem segC_le (l0 : List S53) (fr te : Int) : (segC l0 fr te).length ≤ l0.length := by
  unfold segC
  rw [List.length_drop, List.length_take]
  omega
theorem pz_or (own : List S53) (st : Int) : (∃ e, e ≠ 0 ∧ pz own st = ([], e)) ∨ (∃ ys, pz own st = (st :: ys, 0) ∧ ys.length = own.length) := by
  unfold pz
  rcases pensR_or (rolesZ true own) own st with ⟨e, he, _, hp⟩ | ⟨ys, hp, hw, _, _⟩
  · exact .inl ⟨e, he, hp⟩
  · exact .inr ⟨ys, hp, walk_len hw⟩
theorem pz_len {own : List S53} {st : Int} (h : (pz own st).2 = 0) : (pz own st).1.length = own.length + 1 := by
  rcases pz_or own st with ⟨e, he, hp⟩ | ⟨ys, hp, hw⟩
  · rw [hp] at h; exact absurd h he
  · rw [hp]; simp [hw]
theorem cut_eq {l0 : List S53} (hlen : l0.length ≤ 1000) (hl : ∀ c ∈ l0, okC c) (l1 : List Bool) (fr te : Int) (fo : Bool) (wd : Int) {st : Int} (hst : in64 st) (dots : Int) :
    ellipsis_Cut.f l0 l1 fr te fo wd st dots = some (cutZ l0 l1 fr te wd st dots) := by
  unfold ellipsis_Cut.f cutZ
  by_cases hok : cutOk l0 l1 fr te wd dots
  · rw [if_pos hok, if_pos hok]
    have hsl := segC_le l0 fr te
    have hso := segC_ok hl fr te
    generalize segC l0 fr te = own at hsl hso ⊢
    have hF : trim_Fits.f own st = some (nz own st) := fits_eq (by omega) hso hst
    have hR : trim_Roles.f own = some (rolesZ true own) := roles_ev (by omega)
    have hP : tabs_Pens.f own (rolesZ true own) st = some (pz own st) := pens_eq (by omega) hso hst
    rw [hF, Option.bind_some]
    unfold cutV
    by_cases hn : (nz own st).2 = 0
    · rw [if_pos hn, if_pos hn, hR, Option.bind_some, hP, Option.bind_some]
      by_cases hp : (pz own st).2 = 0
      · rw [if_pos hp, if_pos hp, if_pos (by rw [pz_len hp]; omega)]
      · rw [if_neg hp, if_neg hp]
    · rw [if_neg hn, if_neg hn]
  · rw [if_neg hok, if_neg hok]
/-- Enough rounds are enough. -/
theorem backL_stab (l : List Bool) (fr te : Int) : ∀ (n m : Nat) (p : Int), p - fr < (n : Int) → p - fr < (m : Int) → backL l fr te n p = backL l fr te m p
  | 0, 0, _, _, _ => rfl
  | 0, m + 1, p, h1, _ => by
    unfold backL
    rw [if_neg (by omega)]
  | n + 1, 0, p, _, h2 => by
    unfold backL
    rw [if_neg (by omega)]
  | n + 1, m + 1, p, h1, h2 => by
    unfold backL
    rw [backL_stab l fr te n m (p - 1) (by omega) (by omega)]
/-- The places up to one, from the last one on. -/
def bk (l : List Bool) (fr te p : Int) : List Int := backL l fr te (p - fr + 1).toNat p
theorem bk_eq (l : List Bool) (fr te : Int) (n : Nat) (p : Int) (h : p - fr < (n : Int)) : backL l fr te n p = bk l fr te p := by
  unfold bk
  by_cases h0 : fr ≤ p
  · exact backL_stab l fr te _ _ p h (by omega)
  · have e : (p - fr + 1).toNat = 0 := by omega
    rw [e]
    cases n with
    | zero => rfl
    | succ n => unfold backL; rw [if_neg h0]
/-! ### The document's answer -/
theorem cutTo_bk (ps : List Int) (l1 : List Bool) (fr te n wd dots : Int) (h : te ≤ (l1.length : Int)) (h0 : 0 ≤ fr) : cutTo ps l1 fr te n wd dots = if n > wd then firstL (cutB ps fr dots wd) fr (bk l1 fr te te) else te := by
  unfold cutTo
  rw [bk_eq l1 fr te _ te (by omega)]
end Go.Proofs.Ytkaiibipcnlaiaa.PureF
namespace Go.Proofs.Ytkaiibipcnlaiaa.PureF
set_option linter.unusedVariables false
set_option linter.unusedSimpArgs false
open Go.RowKit Go.Proofs.YtkaiibipcnlaiaaW.PrintWords Go.Proofs.YtkaiibipcnlaiaaW.PrintLast Go.Proofs.YtkaiibipcnlaiaaW.PrintMore Go.Proofs.Ytkaiibipcnlaiaa.Hand Go.Proofs.Ytkaiibipcnlaiaa.HEll
theorem walk_fits : ∀ {rs : List Int} {l : List S53} {i : Nat} {x : Int} {ys : List Int}, fits x → walk rs l i x = some ys → ∀ y ∈ ys, fits y
  | rs, [], i, x, ys, hx, h => by simp only [walk, Option.some.injEq] at h; rw [← h]; exact fun y hy => by cases hy
  | rs, c :: l, i, x, ys, hx, h => by
    simp only [walk] at h
    obtain ⟨y, h1, h2⟩ := Option.bind_eq_some_iff.1 h
    obtain ⟨zs, h3, h4⟩ := Option.map_eq_some_iff.1 h2
    have hy := nxtR_fits hx h1
    have hz := walk_fits hy h3
    rw [← h4]
    exact fun z h5 => by
      rcases List.mem_cons.1 h5 with rfl | h6
      · exact hy
      · exact hz z h6
theorem fits_rd {l : List Int} (h : ∀ y ∈ l, fits y) (q : Int) : fits (rd l q) := by
  unfold rd
  rw [List.getD_eq_getElem?_getD]
  cases hq : l[q.toNat]? with
  | none => unfold fits; simp
  | some v => exact h v (List.mem_of_getElem? hq)
/-- The pens of a line: an error, or the first of them is the start, and all fit. -/
theorem pz_or2 (own : List S53) (st : Int) : (∃ e, e ≠ 0 ∧ pz own st = ([], e)) ∨ (∃ ys, pz own st = (st :: ys, 0) ∧ ys.length = own.length ∧ ∀ y ∈ st :: ys, fits y) := by
  unfold pz
  rcases pensR_or (rolesZ true own) own st with ⟨e, he, _, hp⟩ | ⟨ys, hp, hw, hf, _⟩
  · exact .inl ⟨e, he, hp⟩
  · exact .inr ⟨ys, hp, walk_len hw, fun y hy => by
      rcases List.mem_cons.1 hy with rfl | h
      · exact hf
      · exact walk_fits hf hw y h⟩
theorem cutZ_or (l0 : List S53) (l1 : List Bool) (fr te wd st dots : Int) :
    (∃ e, e ≠ 0 ∧ cutZ l0 l1 fr te wd st dots = (0, 0, false, e) ∧ (¬ cutOk l0 l1 fr te wd dots ∨ e = if (nz (segC l0 fr te) st).2 = 0 then (pz (segC l0 fr te) st).2 else (nz (segC l0 fr te) st).2)) ∨
    (∃ ys, cutOk l0 l1 fr te wd dots ∧ (nz (segC l0 fr te) st).2 = 0 ∧ pz (segC l0 fr te) st = (st :: ys, 0) ∧ ys.length = (segC l0 fr te).length ∧ (∀ y ∈ st :: ys, fits y) ∧
      cutZ l0 l1 fr te wd st dots = (cutTo (st :: ys) l1 fr te (nz (segC l0 fr te) st).1 wd dots, rd (st :: ys) (cutTo (st :: ys) l1 fr te (nz (segC l0 fr te) st).1 wd dots - fr), decide ((nz (segC l0 fr te) st).1 > wd), 0)) := by
  unfold cutZ
  by_cases hok : cutOk l0 l1 fr te wd dots
  · rw [if_pos hok]
    unfold cutV
    by_cases hn : (nz (segC l0 fr te) st).2 = 0
    · rw [if_pos hn, if_pos hn]
      rcases pz_or2 (segC l0 fr te) st with ⟨e, he, hp⟩ | ⟨ys, hp, hl, hf⟩
      · rw [hp, if_neg he]
        exact .inl ⟨e, he, rfl, .inr rfl⟩
      · rw [hp, if_pos rfl]
        exact .inr ⟨ys, hok, hn, rfl, hl, hf, rfl⟩
    · rw [if_neg hn, if_neg hn]
      exact .inl ⟨_, hn, rfl, .inr rfl⟩
  · rw [if_neg hok]
    exact .inl ⟨2, by decide, rfl, .inl hok⟩
theorem bk_le (l : List Bool) (fr te : Int) : ∀ (n : Nat) (p : Int), ∀ q ∈ backL l fr te n p, q ≤ p
  | 0, _, q, hq => by cases hq
  | n + 1, p, q, hq => by
    unfold backL at hq
    split at hq
    · split at hq
      · rcases List.mem_cons.1 hq with rfl | h
        · omega
        · have := bk_le l fr te n (p - 1) q h; omega
      · have := bk_le l fr te n (p - 1) q hq; omega
    · cases hq
theorem backL_has (l : List Bool) (fr te : Int) : ∀ (n : Nat) (p q : Int), p - fr < (n : Int) → fr ≤ q → q ≤ p → (q = te ∨ rdOf false l q = true) → q ∈ backL l fr te n p
  | 0, p, q, h, h1, h2, _ => by omega
  | n + 1, p, q, h, h1, h2, h3 => by
    unfold backL
    rw [if_pos (by omega)]
    by_cases hp : q = p
    · subst hp
      rw [if_pos h3]
      exact List.mem_cons_self ..
    · have := backL_has l fr te n (p - 1) q (by omega) h1 (by omega) h3
      split
      · exact List.mem_cons_of_mem _ this
      · exact this
theorem firstL_spec (P : Int → Bool) (o : Int) : ∀ xs : List Int, firstL P o xs = o ∨ (firstL P o xs ∈ xs ∧ P (firstL P o xs) = true)
  | [] => .inl rfl
  | x :: xs => by
    unfold firstL
    split
    · rename_i h
      exact .inr ⟨List.mem_cons_self .., h⟩
    · rcases firstL_spec P o xs with h | ⟨h1, h2⟩
      · exact .inl h
      · exact .inr ⟨List.mem_cons_of_mem _ h1, h2⟩
/-- The first that may is the greatest. -/
theorem firstL_max (P : Int → Bool) (o : Int) (l : List Bool) (fr te : Int) : ∀ (n : Nat) (p q : Int), q ∈ backL l fr te n p → P q = true → q ≤ firstL P o (backL l fr te n p)
  | 0, p, q, h, _ => by cases h
  | n + 1, p, q, h, hq => by
    unfold backL at h ⊢
    split at h
    · rename_i h0
      rw [if_pos h0]
      split at h
      · rename_i h1
        rw [if_pos h1]
        unfold firstL
        rcases List.mem_cons.1 h with rfl | h2
        · rw [if_pos hq]; exact Int.le_refl _
        · have h3 := bk_le l fr te n (p - 1) q h2
          split
          · omega
          · exact firstL_max P o l fr te n (p - 1) q h2 hq
      · rename_i h1
        rw [if_neg h1]
        exact firstL_max P o l fr te n (p - 1) q h hq
    · cases h
theorem cutB_eq {ps : List Int} (hf : ∀ y ∈ ps, fits y) {fr dots wd q : Int} (h0 : 0 ≤ dots) (h1 : dots ≤ 1073741824) : cutB ps fr dots wd q = decide (rd ps (q - fr) + dots ≤ wd) := by
  have := fits_rd hf (q - fr)
  unfold fits at this
  unfold cutB
  rw [ws (by omega) (by omega)]
end Go.Proofs.Ytkaiibipcnlaiaa.PureF
namespace Go.Proofs.Ytkaiibipcnlaiaa.HEll
open Go.RowKit Go.Proofs.YtkaiibipcnlaiaaW.PrintWords Go.Proofs.YtkaiibipcnlaiaaW.PrintLast Go.Proofs.YtkaiibipcnlaiaaW.PrintMore Go.Proofs.Ytkaiibipcnlaiaa.Hand
/-- What the law stickfullaw26_EllipsisPlain asks of the plain functions. -/
def stickfullaw26_EllipsisPlain.Pure : Prop := ∀ (l0 : List (S53)) (x1 : S29), (l0.length ≤ 9223372036854775807 ∧ l0.length * 40 ≤ 140737488351232 ∧ ∀ y0 ∈ l0, W53 y0) → W29 x1 → ∃ k, stickfullaw26_EllipsisPlain.f k l0 x1.f0 x1.f1 = some true
end Go.Proofs.Ytkaiibipcnlaiaa.HEll
namespace Go.Proofs.Ytkaiibipcnlaiaa.PureF
set_option linter.unusedVariables false
set_option linter.unusedSimpArgs false
open Go.RowKit Go.Proofs.YtkaiibipcnlaiaaW.PrintWords Go.Proofs.YtkaiibipcnlaiaaW.PrintLast Go.Proofs.YtkaiibipcnlaiaaW.PrintMore Go.Proofs.Ytkaiibipcnlaiaa.Hand Go.Proofs.Ytkaiibipcnlaiaa.HEll
theorem plainEnd (l0 : List S53) (to_ at_ : Int) (cut : Bool) (ps : List Int) (p wd st : Int) (h1 : cut = true → at_ ≤ wd ∨ to_ = 0) (h2 : cut = false → to_ = (l0.length : Int)) : Ev (fun k => stickfullaw26_EllipsisPlain.j3 k l0 to_ at_ cut ps p false wd st) true := by
  refine Ev.step (fun k => ?_) head_ev2
  simp only [stickfullaw26_EllipsisPlain.j3]
  rw [if_neg (by decide)]
  cases cut with
  | true =>
    rw [if_pos rfl]
    by_cases h : at_ ≤ wd
    · rw [if_pos h]
    · rw [if_neg h, if_pos ((h1 rfl).resolve_left h)]
  | false => rw [if_neg (by decide), if_pos (h2 rfl)]
theorem plain_l1 (l0 : List S53) (to_ at_ : Int) (cut : Bool) (ps : List Int) (wd st : Int) (hlen : l0.length ≤ 100) (hps : (ps.length : Int) = (l0.length : Int) + 1) (h0 : 0 ≤ to_) (h1 : cut = true → at_ ≤ wd ∨ to_ = 0) (h2 : cut = false → to_ = (l0.length : Int))
    (h3 : cut = true → ∀ p : Int, to_ < p → p ≤ (l0.length : Int) → ¬ rd ps p ≤ wd) : ∀ (r : Nat) (p : Int), to_ < p → p + (r : Int) = (l0.length : Int) + 1 → Ev (fun k => stickfullaw26_EllipsisPlain.l1 k l0 to_ at_ cut ps p wd st) true := by
  intro r
  induction r with
  | zero =>
    intro p hp hr
    refine Ev.step (fun k => ?_) (plainEnd l0 to_ at_ cut ps p wd st h1 h2)
    simp only [stickfullaw26_EllipsisPlain.l1]
    rw [if_neg (by omega)]
  | succ r ih =>
    intro p hp hr
    cases hc : cut with
    | false =>
      rw [hc] at h1 h2
      refine Ev.step (fun k => ?_) (plainEnd l0 to_ at_ false ps p wd st h1 h2)
      simp only [stickfullaw26_EllipsisPlain.l1]
      rw [if_pos (by omega)]
    | true =>
      have hi := ih (p + 1) (by omega) (by omega)
      rw [hc] at hi
      refine Ev.step (f := fun k => stickfullaw26_EllipsisPlain.j3 k l0 to_ at_ true ps p true wd st) (fun k => ?_) (Ev.step (fun k => ?_) hi)
      · simp only [stickfullaw26_EllipsisPlain.l1]
        rw [if_pos (by omega)]
      · simp only [stickfullaw26_EllipsisPlain.j3]
        rw [if_pos trivial, if_pos (by omega), if_pos (by omega), if_neg (h3 hc p hp (by omega)), ws (by omega) (by omega)]
theorem segC_all (l0 : List S53) : segC l0 0 (l0.length : Int) = l0 := by
  unfold segC
  simp
theorem plain_cut (l0 : List S53) (bs : List Bool) (wd st : Int) (hlen : l0.length ≤ 100) (hl : ∀ c ∈ l0, okC c) (hst : in64 st) (hb : bs.length = l0.length) (hall : ∀ q : Int, 0 ≤ q → q < (l0.length : Int) → rdOf false bs q = true) :
    Ev (fun k => stickfullaw26_EllipsisPlain.l0 k l0 bs (l0.length : Int) wd st) true := by
  have bad : ∀ (to_ at_ : Int) (cut : Bool) (e : Int) (ps : List Int), e ≠ 0 → Ev (fun k => stickfullaw26_EllipsisPlain.j1 k l0 to_ at_ cut e ps true wd st) true := fun to_ at_ cut e ps he => by
    refine Ev.step (fun k => ?_) head_ev2
    simp only [stickfullaw26_EllipsisPlain.j1]
    rw [if_pos trivial, if_neg he]
  have hR : trim_Roles.f l0 = some (rolesZ true l0) := roles_ev (by omega)
  have hP : tabs_Pens.f l0 (rolesZ true l0) st = some (pz l0 st) := pens_eq (by omega) hl hst
  rcases cutZ_or l0 bs 0 (l0.length : Int) wd st 0 with ⟨e, he, hz, _⟩ | ⟨ys, hok, hn, hp, hyl, hyf, hz⟩
  · refine Ev.step (fun k => ?_) (bad 0 0 false e (pz l0 st).1 he)
    simp only [stickfullaw26_EllipsisPlain.l0]
    rw [if_neg (by omega), cut_eq (by omega) hl _ _ _ _ _ hst, Option.bind_some, hz, hR, Option.bind_some, hP, Option.bind_some, if_neg he]
  · rw [segC_all] at hn hp hyl hz
    have hB := cutTo_in (st :: ys) bs 0 (l0.length : Int) (nz l0 st).1 wd 0 (by omega)
    have hT : (nz l0 st).1 > wd → cutTo (st :: ys) bs 0 (l0.length : Int) (nz l0 st).1 wd 0 = firstL (cutB (st :: ys) 0 0 wd) 0 (bk bs 0 (l0.length : Int) (l0.length : Int)) := fun h => by
      rw [cutTo_bk _ _ _ _ _ _ _ (by omega) (Int.le_refl _), if_pos h]
    have hU : ¬ (nz l0 st).1 > wd → cutTo (st :: ys) bs 0 (l0.length : Int) (nz l0 st).1 wd 0 = (l0.length : Int) := fun h => by
      unfold cutTo
      rw [if_neg h]
    generalize cutTo (st :: ys) bs 0 (l0.length : Int) (nz l0 st).1 wd 0 = to_ at hz hB hT hU
    rw [show to_ - 0 = to_ by omega] at hz
    have hps : ((st :: ys).length : Int) = (l0.length : Int) + 1 := by rw [List.length_cons]; omega
    refine Ev.step (f := fun k => stickfullaw26_EllipsisPlain.j1 k l0 to_ (rd (st :: ys) to_) (decide ((nz l0 st).1 > wd)) 0 (st :: ys) false wd st) (fun k => ?_) (Ev.step (fun k => ?_) (plain_l1 l0 to_ (rd (st :: ys) to_) (decide ((nz l0 st).1 > wd)) (st :: ys) wd st hlen hps hB.1 (fun hc => ?_) (fun hc => ?_) (fun hc p h1 h2 h3 => ?_) ((l0.length : Int) - to_).toNat (to_ + 1) (by omega) (by omega)))
    · simp only [stickfullaw26_EllipsisPlain.l0]
      rw [if_neg (by omega), cut_eq (by omega) hl _ _ _ _ _ hst, Option.bind_some, hz, hR, Option.bind_some, hP, Option.bind_some, hp, if_pos rfl, if_pos rfl, if_pos (by rw [hps, ws (by omega) (by omega)]), if_neg (by omega), decide_eq_false (show ¬ to_ > (l0.length : Int) by omega)]
    · simp only [stickfullaw26_EllipsisPlain.j1]
      rw [if_neg (by decide), if_pos hB.1, if_pos (by rw [hps]; omega), if_pos trivial, ws (by omega) (by omega)]
    · rw [hT (of_decide_eq_true hc)]
      rcases firstL_spec (cutB (st :: ys) 0 0 wd) 0 (bk bs 0 (l0.length : Int) (l0.length : Int)) with h | ⟨_, h⟩
      · exact .inr h
      · rw [cutB_eq hyf (by omega) (by omega)] at h
        have h := of_decide_eq_true h
        rw [Int.sub_zero, Int.add_zero] at h
        exact .inl h
    · exact hU (of_decide_eq_false hc)
    · have hm : p ∈ backL bs 0 (l0.length : Int) ((l0.length : Int) - 0 + 1).toNat (l0.length : Int) := backL_has bs 0 _ _ _ p (by omega) (by omega) h2 (by
        by_cases hpn : p = (l0.length : Int)
        · exact .inl hpn
        · exact .inr (hall p (by omega) (by omega)))
      have hx := firstL_max (cutB (st :: ys) 0 0 wd) 0 bs 0 (l0.length : Int) _ _ p hm (by
        rw [cutB_eq hyf (by omega) (by omega)]
        refine decide_eq_true ?_
        rw [Int.sub_zero, Int.add_zero]
        exact h3)
      have := hT (of_decide_eq_true hc)
      unfold bk at this
      omega
theorem plain_l0 (l0 : List S53) (wd st : Int) (hlen : l0.length ≤ 100) (hl : ∀ c ∈ l0, okC c) (hst : in64 st) : ∀ (r i : Nat) (bs : List Bool), i + r = l0.length → bs.length = l0.length → (∀ q : Int, 0 ≤ q → q < (i : Int) → rdOf false bs q = true) →
    Ev (fun k => stickfullaw26_EllipsisPlain.l0 k l0 bs (i : Int) wd st) true := by
  intro r
  induction r with
  | zero =>
    intro i bs hi hb hall
    obtain rfl : i = l0.length := by omega
    exact plain_cut l0 bs wd st hlen hl hst hb hall
  | succ r ih =>
    intro i bs hi hb hall
    refine Ev.step (fun k => ?_) (ih (i + 1) (bs.set i true) (by omega) (by rw [List.length_set, hb]) fun q h1 h2 => ?_)
    · simp only [stickfullaw26_EllipsisPlain.l0]
      rw [if_pos (by omega), if_pos (by omega), if_pos (by omega), w1 (by omega), Int.toNat_natCast]
    · unfold rdOf
      rw [List.getD_eq_getElem?_getD, List.getElem?_set]
      by_cases hq : i = q.toNat
      · rw [if_pos hq, if_pos (by omega)]
        rfl
      · rw [if_neg hq, ← List.getD_eq_getElem?_getD]
        exact hall q h1 (by omega)
theorem plain_ev (l0 : List S53) (wd st : Int) (hl : ∀ c ∈ l0, okC c) (hst : in64 st) : Ev (fun k => stickfullaw26_EllipsisPlain.f k l0 wd st) true := by
  unfold stickfullaw26_EllipsisPlain.f
  by_cases h : (l0.length : Int) > 100
  · exact Ev.congr (fun k => if_pos h) head_ev2
  · refine Ev.congr (fun k => ?_) (plain_l0 l0 wd st (by omega) hl hst l0.length 0 (List.replicate ((l0.length : Int) : Int).toNat false) (by omega) (by simp) (fun q h1 h2 => by omega))
    rw [if_neg h, if_pos (by omega), if_pos (by omega)]
    rfl
end Go.Proofs.Ytkaiibipcnlaiaa.PureF
namespace Go.Proofs.Ytkaiibipcnlaiaa.Pure
open Go.RowKit Go.Proofs.YtkaiibipcnlaiaaW.PrintWords Go.Proofs.YtkaiibipcnlaiaaW.PrintLast Go.Proofs.YtkaiibipcnlaiaaW.PrintMore Go.Proofs.Ytkaiibipcnlaiaa.Hand Go.Proofs.Ytkaiibipcnlaiaa.HEll
theorem EllipsisPlain : stickfullaw26_EllipsisPlain.Pure := fun l0 x1 h0 h1 => (PureF.plain_ev l0 x1.f0 x1.f1 (fun c hc => PureF.okC_of (h0.2.2 c hc)) (PureF.i64_of h1.2)).rounds
end Go.Proofs.Ytkaiibipcnlaiaa.Pure
