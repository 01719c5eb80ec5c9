/- Plain laws of chapter 26: pens and roles, what fits, and the document's own answers. No condition of its own. -/
import Derived.Test.YtkaiibipcnlaiaaHEllx0
import Derived.Test.YtkaiibipcnlaiaaHEllx1
import Derived.Test.YtkaiibipcnlaiaaHEllx2
import Derived.Test.YtkaiibipcnlaiaaHEllx6
import Derived.Test.YtkaiibipcnlaiaaHEllx7
import Derived.Test.YtkaiibipcnlaiaaHEllx8
import Derived.Test.YtkaiibipcnlaiaaHEllx10
import Derived.Test.YtkaiibipcnlaiaaHEllx11
import Derived.Test.YtkaiibipcnlaiaaHEllx12
import Derived.Test.YtkaiibipcnlaiaaHEllx14
import Derived.Test.YtkaiibipcnlaiaaHEllx15
import Derived.Test.YtkaiibipcnlaiaaSayEll
import Derived.Test.YtkaiibipcnlaiaaHEllx23
namespace Go.Proofs.Ytkaiibipcnlaiaa.PureF
open Go.RowKit Go.Proofs.YtkaiibipcnlaiaaW.PrintWords Go.Proofs.YtkaiibipcnlaiaaW.PrintLast Go.Proofs.YtkaiibipcnlaiaaW.PrintMore Go.Proofs.Ytkaiibipcnlaiaa.Hand Go.Proofs.Ytkaiibipcnlaiaa.HEll
def fits (x : Int) : Prop := -4611686018427387904 ≤ x ∧ x ≤ 4611686018427387904
instance (x : Int) : Decidable (fits x) := by unfold fits; exact inferInstance
def fitO (s : Int) : Option Int := if fits s then some s else none
/-- The pen behind a cell that may be. -/
def nxt (c : S53) (x : Int) : Option Int := if c.f0 = 4 then (if c.f3 = 0 then some x else fitO (x - x % c.f3 + c.f3)) else fitO (x + c.f3)
def nxtR (r : Int) (c : S53) (x : Int) : Option Int := if r = 1 then some x else nxt c x
/-- The pens behind cells. -/
def walk (rs : List Int) : List S53 → Nat → Int → Option (List Int)
  | [], _, _ => some []
  | c :: l, i, x => (nxtR (roleAt rs i) c x).bind fun y => (walk rs l (i + 1) y).map (y :: ·)
def pensR (rs : List Int) (l : List S53) (x : Int) : List Int × Int :=
  if l.any badTab then ([], 2) else if fits x then (match walk rs l 0 x with | some ys => (x :: ys, 0) | none => ([], 10)) else ([], 10)
def okC (c : S53) : Prop := in64 c.f3

theorem ws {x : Int} (h1 : -9223372036854775808 ≤ x) (h2 : x ≤ 9223372036854775807) : wrap64 x = x := by
  unfold wrap64
  omega
theorem sum_ok {l : List Int} (h : ∀ x ∈ l, in64 x) (hl : l.length ≤ 1000) : unit_Sum.f l = some (if fits l.sum then (l.sum, 0) else (0, 10)) := by
  unfold unit_Sum.f
  rw [if_pos ⟨h, by omega⟩]
  by_cases hf : fits l.sum
  · rw [if_pos hf]; exact if_pos hf
  · rw [if_neg hf]; exact if_neg hf
theorem in_of_fits {x : Int} (h : fits x) : in64 x := by unfold fits at h; unfold in64; omega
theorem tmod_cases {x d : Int} (hd : 0 < d) : (x.tmod d < 0 ∧ x % d = x.tmod d + d) ∨ (¬ x.tmod d < 0 ∧ x % d = x.tmod d) := by
  have h1 : 0 ≤ x % d := Int.emod_nonneg x (by omega)
  have h2 : x % d < d := Int.emod_lt_of_pos x hd
  rcases Int.le_total 0 x with hx | hx
  · right
    rw [Int.tmod_eq_emod_of_nonneg hx]
    exact ⟨by omega, rfl⟩
  · have e : x.tmod d = -((-x).tmod d) := by rw [Int.neg_tmod]; omega
    rw [Int.tmod_eq_emod_of_nonneg (show 0 ≤ -x by omega)] at e
    have h3 : 0 ≤ (-x) % d := Int.emod_nonneg (-x) (by omega)
    have h4 : (-x) % d < d := Int.emod_lt_of_pos (-x) hd
    have h5 : ((-x) % d + x % d) % d = 0 := by rw [← Int.add_emod]; simp [Int.add_left_neg]
    by_cases hz : (-x) % d = 0
    · right
      rw [hz] at h5 e
      rw [Int.zero_add, Int.emod_emod_of_dvd x (Int.dvd_refl d)] at h5
      omega
    · left
      have h6 : (-x) % d + x % d = d := by
        by_cases hc : (-x) % d + x % d < d
        · rw [Int.emod_eq_of_lt (by omega) hc] at h5
          omega
        · have : ((-x) % d + x % d - d) % d = 0 := by rw [Int.sub_emod_right]; exact h5
          rw [Int.emod_eq_of_lt (by omega) (by omega)] at this
          omega
      omega
theorem step_eq {c : S53} (hc : okC c) (hb : badTab c = false) {x : Int} (hx : fits x) : stepC c x = some (match nxt c x with | some y => (y, 0) | none => (0, 10)) := by
  have hx1 := in_of_fits hx
  have s1 : unit_Sum.f [x] = some (x, 0) := by
    rw [sum_ok (by simpa using hx1) (by simp)]
    simp only [List.sum_cons, List.sum_nil, Int.add_zero]
    rw [if_pos hx]
  unfold stepC tabs_Step.f nxt
  rw [s1]
  simp only [Option.bind_some]
  by_cases h4 : c.f0 = 4
  · rw [if_pos h4, if_pos h4]
    have h3 : ¬ c.f3 < 0 := by
      intro h
      unfold badTab at hb
      rw [h4, decide_eq_true h] at hb
      cases hb
    rw [decide_eq_false h3]
    simp only [tabs_Step.j0]
    rw [if_neg (by decide), if_pos h4, if_pos trivial]
    by_cases h0 : c.f3 = 0
    · rw [if_pos h0, if_pos h0]
    · rw [if_neg h0, if_neg h0]
      have hd : 0 < c.f3 := by omega
      have hi : c.f3 ≤ 9223372036854775807 := hc.2
      have hm1 : 0 ≤ x % c.f3 := Int.emod_nonneg x (by omega)
      have hm2 : x % c.f3 < c.f3 := Int.emod_lt_of_pos x hd
      have key : unit_Stop.f x c.f3 = some (if fits (x - x % c.f3 + c.f3) then (x - x % c.f3 + c.f3, 0) else (0, 10)) := by
        unfold unit_Stop.f
        rw [if_neg (by omega), if_neg h0]
        rcases tmod_cases (x := x) hd with ⟨ht, he⟩ | ⟨ht, he⟩
        · rw [if_pos ht, show wrap64 (x.tmod c.f3 + c.f3) = x % c.f3 by rw [he]; exact ws (by omega) (by omega), ws (x := -(x % c.f3)) (by omega) (by omega), sum_ok (by
            intro y hy
            simp at hy
            rcases hy with rfl | rfl | rfl
            · exact hx1
            · unfold in64; omega
            · exact hc) (by simp)]
          have es : [x, -(x % c.f3), c.f3].sum = x - x % c.f3 + c.f3 := by simp; omega
          rw [es]
          simp only [Option.bind_some]
        · rw [if_neg ht, ← he, ws (x := -(x % c.f3)) (by omega) (by omega), sum_ok (by
            intro y hy
            simp at hy
            rcases hy with rfl | rfl | rfl
            · exact hx1
            · unfold in64; omega
            · exact hc) (by simp)]
          have es : [x, -(x % c.f3), c.f3].sum = x - x % c.f3 + c.f3 := by simp; omega
          rw [es]
          simp only [Option.bind_some]
      rw [key]
      unfold fitO
      by_cases hf : fits (x - x % c.f3 + c.f3)
      · rw [if_pos hf, if_pos hf]; rfl
      · rw [if_neg hf, if_neg hf]; rfl
  · rw [if_neg h4, if_neg h4]
    simp only [tabs_Step.j0]
    rw [if_neg (by decide), if_neg h4, sum_ok (by
      intro y hy
      simp at hy
      rcases hy with rfl | rfl
      · exact hx1
      · exact hc) (by simp)]
    have es : [x, c.f3].sum = x + c.f3 := by simp
    rw [es]
    unfold fitO
    by_cases hf : fits (x + c.f3)
    · rw [if_pos hf, if_pos hf]; rfl
    · rw [if_neg hf, if_neg hf]; rfl
theorem nxt_fits {c : S53} {x y : Int} (hx : fits x) (h : nxt c x = some y) : fits y := by
  unfold nxt fitO at h
  split at h
  · split at h
    · cases h; exact hx
    · split at h
      · cases h; assumption
      · cases h
  · split at h
    · cases h; assumption
    · cases h
theorem nxtR_fits {r : Int} {c : S53} {x y : Int} (hx : fits x) (h : nxtR r c x = some y) : fits y := by
  unfold nxtR at h
  split at h
  · cases h; exact hx
  · exact nxt_fits hx h
theorem pen_eq {c : S53} (hc : okC c) (hb : badTab c = false) {r x : Int} (hx : fits x) : penOf c r x = some (match nxtR r c x with | some y => (y, 0) | none => (0, 10)) := by
  unfold penOf nxtR
  by_cases h : r = 1
  · rw [if_pos h, if_pos h]
  · rw [if_neg h, if_neg h]; exact step_eq hc hb hx
theorem lastE_cons {p : Int × Int} {ps : List (Int × Int)} (h : lastE ps = 10) : lastE (p :: ps) = 10 := by
  cases ps with
  | nil => cases h
  | cons q qs => exact h
theorem pensL_eq (rs : List Int) : ∀ (l : List S53) (i : Nat) (x : Int), (∀ c ∈ l, okC c ∧ badTab c = false) → fits x →
    ∃ ps, pensL rs l i x = some ps ∧ (match walk rs l i x with | some ys => ps = ys.map (fun y => (y, 0)) | none => lastE ps = 10)
  | [], i, x, _, _ => ⟨[], rfl, rfl⟩
  | c :: l, i, x, hl, hx => by
    obtain ⟨hc, hb⟩ := hl c (List.mem_cons_self ..)
    have hl2 : ∀ c ∈ l, okC c ∧ badTab c = false := fun d hd => hl d (List.mem_cons_of_mem _ hd)
    simp only [pensL, walk]
    rw [pen_eq hc hb hx]
    cases hn : nxtR (roleAt rs i) c x with
    | none => exact ⟨[(0, 10)], by simp, by simp [lastE]⟩
    | some y =>
      obtain ⟨ps, h1, h2⟩ := pensL_eq rs l (i + 1) y hl2 (nxtR_fits hx hn)
      refine ⟨(y, 0) :: ps, by simp [h1], ?_⟩
      simp only [Option.bind_some]
      cases hw : walk rs l (i + 1) y with
      | none => rw [hw] at h2; exact lastE_cons h2
      | some ys => rw [hw] at h2; simp only [Option.map_some]; rw [h2]; rfl
theorem pens_eq {l : List S53} {rs : List Int} {x : Int} (hlen : l.length ≤ 1000000000000) (hl : ∀ c ∈ l, okC c) (hx : in64 x) : tabs_Pens.f l rs x = some (pensR rs l x) := by
  unfold tabs_Pens.f pensR
  rw [if_pos hlen]
  by_cases hb : l.any badTab = true
  · rw [if_pos hb, if_pos hb]
  · rw [if_neg hb, if_neg hb]
    have s1 : unit_Sum.f [x] = some (if fits x then (x, 0) else (0, 10)) := by
      rw [sum_ok (by simpa using hx) (by simp)]
      simp
    rw [s1]
    by_cases hf : fits x
    · rw [if_pos hf, if_pos hf]
      simp only [Option.bind_some, if_true]
      have hl2 : ∀ c ∈ l, okC c ∧ badTab c = false := fun c hc => ⟨hl c hc, by
        cases h : badTab c with
        | false => rfl
        | true => exact absurd (List.any_eq_true.2 ⟨c, hc, h⟩) hb⟩
      obtain ⟨ps, h1, h2⟩ := pensL_eq rs l 0 x hl2 hf
      rw [h1]
      simp only [Option.bind_some]
      cases hw : walk rs l 0 x with
      | none => rw [hw] at h2; simp only at h2; rw [h2]; rfl
      | some ys =>
        rw [hw] at h2
        simp only at h2
        have hz : lastE ps = 0 := lastE_zero (fun q hq => by rw [h2] at hq; obtain ⟨y, _, rfl⟩ := List.mem_map.1 hq; rfl)
        rw [if_pos hz, h2, List.map_map]
        congr 2
        exact congrArg _ (List.map_id'' (fun _ => rfl) ys)
    · rw [if_neg hf, if_neg hf]
      simp
end Go.Proofs.Ytkaiibipcnlaiaa.PureF

namespace Go.Proofs.Ytkaiibipcnlaiaa.PureF
open Go.RowKit Go.Proofs.YtkaiibipcnlaiaaW.PrintWords Go.Proofs.YtkaiibipcnlaiaaW.PrintLast Go.Proofs.YtkaiibipcnlaiaaW.PrintMore Go.Proofs.Ytkaiibipcnlaiaa.Hand Go.Proofs.Ytkaiibipcnlaiaa.HEll
theorem i64_of {n : Int} (h : (Lit.int .i64 n).wf = true) : in64 n := by
  have h2 : IntKind.i64.min ≤ n ∧ n ≤ IntKind.i64.max := by simpa [Lit.wf] using h
  have e1 : IntKind.i64.min = -9223372036854775808 := rfl
  have e2 : IntKind.i64.max = 9223372036854775807 := rfl
  unfold in64
  omega
theorem okC_of {c : S53} (h : W53 c) : okC c := i64_of h.2.2.2.1
theorem head_ev : Ev (fun k => stickfullaw26_head.f k) true := Ev.of (fun k => stickfullaw26_head.mono k) (k := 100) (by kernel_rfl)
theorem head_ev2 : Ev (fun k => (stickfullaw26_head.f k).bind fun t => some t) true := Ev.bind head_ev (Ev.now true)
theorem w1 {n : Nat} (h : n ≤ 1000000000) : wrap64 ((n : Int) + 1) = ((n + 1 : Nat) : Int) := by rw [ws (by omega) (by omega)]; rfl
def lastD : Int → List Int → Int
  | x, [] => x
  | _, y :: ys => lastD y ys
theorem rd_last : ∀ (x : Int) (ys : List Int), rd (x :: ys) ((ys.length : Nat) : Int) = lastD x ys
  | x, [] => rfl
  | x, y :: ys => by
    rw [lastD, ← rd_last y ys]
    unfold rd
    simp [List.getD]
/-- What Pens tells: an error and no pens, or all pens. -/
theorem pensR_or (rs : List Int) (l : List S53) (x : Int) :
    (∃ e, e ≠ 0 ∧ (e = 2 ∨ e = 10) ∧ pensR rs l x = ([], e)) ∨ (∃ ys, pensR rs l x = (x :: ys, 0) ∧ walk rs l 0 x = some ys ∧ fits x ∧ l.any badTab = false) := by
  unfold pensR
  by_cases hb : l.any badTab = true
  · rw [if_pos hb]; exact .inl ⟨2, by decide, .inl rfl, rfl⟩
  · rw [if_neg hb]
    by_cases hf : fits x
    · rw [if_pos hf]
      cases walk rs l 0 x with
      | none => exact .inl ⟨10, by decide, .inr rfl, rfl⟩
      | some ys => exact .inr ⟨ys, rfl, rfl, hf, by simpa using hb⟩
    · rw [if_neg hf]; exact .inl ⟨10, by decide, .inr rfl, rfl⟩
end Go.Proofs.Ytkaiibipcnlaiaa.PureF

namespace Go.Proofs.Ytkaiibipcnlaiaa.PureF
set_option linter.unusedVariables false
set_option linter.unusedSimpArgs false
open Go.RowKit Go.Proofs.YtkaiibipcnlaiaaW.PrintWords Go.Proofs.YtkaiibipcnlaiaaW.PrintLast Go.Proofs.YtkaiibipcnlaiaaW.PrintMore Go.Proofs.Ytkaiibipcnlaiaa.Hand Go.Proofs.Ytkaiibipcnlaiaa.HEll
/-- The role of a cell behind cells that are blank or not, ahead of others. -/
def roleZ (a : Bool) (c : S53) (s : List S53) : Int :=
  if c.f0 = 1 ∧ (a = true ∨ s.all blankB = true) then 1 else if c.f0 = 2 ∧ s.all hangB = true then 2 else 0
def rolesZ : Bool → List S53 → List Int
  | _, [] => []
  | a, c :: s => roleZ a c s :: rolesZ (a && blankB c) s
theorem rolesZ_len : ∀ (a : Bool) (l : List S53), (rolesZ a l).length = l.length
  | _, [] => rfl
  | a, c :: s => by simp [rolesZ, rolesZ_len (a && blankB c) s]
theorem rd_nat (l : List S53) {i : Nat} (hi : i < l.length) : rd_T53 l (i : Int) = l[i] := by
  unfold rd_T53
  simp [List.getD, hi]
theorem rolesZ_get : ∀ (a : Bool) (l : List S53) (i : Nat) (hi : i < l.length), rd (rolesZ a l) (i : Int) = roleZ (a && (l.take i).all blankB) l[i] (l.drop (i + 1))
  | _, [], i, hi => by simp at hi
  | a, c :: s, 0, hi => by simp [rolesZ, rd]
  | a, c :: s, i + 1, hi => by
    have h := rolesZ_get (a && blankB c) s i (by simpa using hi)
    simp only [rolesZ]
    have e : rd (roleZ a c s :: rolesZ (a && blankB c) s) ((i + 1 : Nat) : Int) = rd (rolesZ (a && blankB c) s) (i : Int) := by
      unfold rd
      simp [List.getD]
    rw [e, h]
    simp [List.take_succ_cons, Bool.and_assoc]
/-- The ways from the front, and from the back. -/
theorem way_up (l : List S53) (p : S53 → Bool) : ∀ (n : Nat) (i : Int), 0 ≤ i → (l.length : Int) - i < n → ∀ j : Int, j ∈ wayL l p 1 n i ↔ i ≤ j ∧ j < (l.length : Int) ∧ ∀ m : Int, i ≤ m → m ≤ j → p (rd_T53 l m) = true
  | 0, i, h0, hn, j => by
    simp only [wayL, List.not_mem_nil, false_iff]
    rintro ⟨h1, h2, h3⟩
    omega
  | n + 1, i, h0, hn, j => by
    have ih := way_up l p n (i + 1) (by omega) (by omega) j
    simp only [wayL]
    by_cases hc : 0 ≤ i ∧ i < (l.length : Int) ∧ p (rd_T53 l i) = true
    · rw [if_pos hc, List.mem_cons, ih]
      constructor
      · rintro (rfl | ⟨h1, h2, h3⟩)
        · exact ⟨by omega, hc.2.1, fun m h4 h5 => by rw [show m = j by omega]; exact hc.2.2⟩
        · exact ⟨by omega, h2, fun m h4 h5 => by
            by_cases hm : m = i
            · rw [hm]; exact hc.2.2
            · exact h3 m (by omega) h5⟩
      · rintro ⟨h1, h2, h3⟩
        by_cases hj : j = i
        · exact .inl hj
        · exact .inr ⟨by omega, h2, fun m h4 h5 => h3 m (by omega) h5⟩
    · rw [if_neg hc]
      simp only [List.not_mem_nil, false_iff]
      rintro ⟨h1, h2, h3⟩
      exact hc ⟨h0, by omega, h3 i (by omega) (by omega)⟩
theorem way_down (l : List S53) (p : S53 → Bool) : ∀ (n : Nat) (i : Int), i < (l.length : Int) → -1 ≤ i → i + 1 < n → ∀ j : Int, j ∈ wayL l p (-1) n i ↔ 0 ≤ j ∧ j ≤ i ∧ ∀ m : Int, j ≤ m → m ≤ i → p (rd_T53 l m) = true
  | 0, i, h0, h1, hn, j => by omega
  | n + 1, i, h0, h1, hn, j => by
    simp only [wayL]
    by_cases hc : 0 ≤ i ∧ i < (l.length : Int) ∧ p (rd_T53 l i) = true
    · have ih := way_down l p n (i + -1) (by omega) (by omega) (by omega) j
      rw [if_pos hc, List.mem_cons, ih]
      constructor
      · rintro (rfl | ⟨h1, h2, h3⟩)
        · exact ⟨hc.1, by omega, fun m h4 h5 => by rw [show m = j by omega]; exact hc.2.2⟩
        · exact ⟨h1, by omega, fun m h4 h5 => by
            by_cases hm : m = i
            · rw [hm]; exact hc.2.2
            · exact h3 m h4 (by omega)⟩
      · rintro ⟨h1, h2, h3⟩
        by_cases hj : j = i
        · exact .inl hj
        · exact .inr ⟨h1, by omega, fun m h4 h5 => h3 m h4 (by omega)⟩
    · rw [if_neg hc]
      simp only [List.not_mem_nil, false_iff]
      rintro ⟨h1, h2, h3⟩
      exact hc ⟨by omega, h0, h3 i (by omega) (by omega)⟩
theorem markL_len (l : List S53) (kind role : Int) : ∀ (is out : List Int), (markL l kind role is out).length = out.length
  | [], out => rfl
  | i :: is, out => by
    have := markL_len l kind role is (if (rd_T53 l i).f0 = kind then out.set i.toNat role else out)
    unfold markL at this ⊢
    rw [List.foldl_cons, this]
    split <;> simp
theorem rd_set (out : List Int) (i j : Nat) (v : Int) (hj : j < out.length) : rd (out.set i v) (j : Int) = if i = j then v else rd out (j : Int) := by
  unfold rd
  simp only [Int.toNat_natCast, List.getD_eq_getElem?_getD, List.getElem?_set]
  by_cases h : i = j
  · subst h; simp [hj]
  · simp [h]
theorem markL_get (l : List S53) (kind role : Int) (j : Nat) : ∀ (is out : List Int), (∀ i ∈ is, 0 ≤ i) → j < out.length → rd (markL l kind role is out) (j : Int) = if (j : Int) ∈ is ∧ (rd_T53 l (j : Int)).f0 = kind then role else rd out (j : Int)
  | [], out, _, hj => by simp [markL]
  | i :: is, out, hi, hj => by
    have hi0 : 0 ≤ i := hi i (List.mem_cons_self ..)
    have ih := markL_get l kind role j is (if (rd_T53 l i).f0 = kind then out.set i.toNat role else out) (fun x hx => hi x (List.mem_cons_of_mem _ hx)) (by split <;> simpa using hj)
    have e : markL l kind role (i :: is) out = markL l kind role is (if (rd_T53 l i).f0 = kind then out.set i.toNat role else out) := rfl
    rw [e, ih]
    by_cases hm : (j : Int) ∈ is
    · simp only [hm, List.mem_cons, or_true, true_and]
      by_cases hk : (rd_T53 l (j : Int)).f0 = kind
      · rw [if_pos hk, if_pos hk]
      · rw [if_neg hk, if_neg hk]
        by_cases h2 : (rd_T53 l i).f0 = kind
        · rw [if_pos h2, rd_set _ _ _ _ hj, if_neg (fun h => hk (by rw [show (j : Int) = i by omega]; exact h2))]
        · rw [if_neg h2]
    · rw [if_neg (fun h => hm h.1)]
      by_cases hij : (j : Int) = i
      · subst hij
        by_cases hk : (rd_T53 l (j : Int)).f0 = kind
        · rw [if_pos hk, if_pos ⟨List.mem_cons_self .., hk⟩, Int.toNat_natCast, rd_set _ _ _ _ hj, if_pos rfl]
        · rw [if_neg hk, if_neg (fun h => hk h.2)]
      · have hnot : ¬ ((j : Int) ∈ i :: is ∧ (rd_T53 l (j : Int)).f0 = kind) := fun h => by
          rcases List.mem_cons.1 h.1 with h3 | h3
          · exact hij h3
          · exact hm h3
        rw [if_neg hnot]
        by_cases h2 : (rd_T53 l i).f0 = kind
        · rw [if_pos h2, rd_set _ _ _ _ hj, if_neg (by omega)]
        · rw [if_neg h2]
theorem all_take (l : List S53) (p : S53 → Bool) (j : Nat) (hj : j < l.length) : (∀ m : Int, 0 ≤ m → m ≤ (j : Int) → p (rd_T53 l m) = true) ↔ (l.take j).all p = true ∧ p l[j] = true := by
  rw [List.all_eq_true]
  constructor
  · intro h
    refine ⟨fun x hx => ?_, by have := h j (by omega) (by omega); rw [rd_nat l hj] at this; exact this⟩
    obtain ⟨i, hi, rfl⟩ := List.getElem_of_mem hx
    rw [List.length_take] at hi
    have := h (i : Int) (by omega) (by omega)
    rw [rd_nat l (by omega)] at this
    rw [List.getElem_take]
    exact this
  · rintro ⟨h1, h2⟩ m hm0 hm1
    obtain ⟨i, rfl⟩ := Int.eq_ofNat_of_zero_le hm0
    rw [rd_nat l (by omega)]
    by_cases hij : i = j
    · subst hij; exact h2
    · exact h1 _ (List.mem_take_iff_getElem.2 ⟨i, by omega, rfl⟩)
theorem all_drop (l : List S53) (p : S53 → Bool) (j : Nat) (hj : j < l.length) : (∀ m : Int, (j : Int) ≤ m → m ≤ (l.length : Int) - 1 → p (rd_T53 l m) = true) ↔ p l[j] = true ∧ (l.drop (j + 1)).all p = true := by
  rw [List.all_eq_true]
  constructor
  · intro h
    refine ⟨by have := h j (by omega) (by omega); rw [rd_nat l hj] at this; exact this, fun x hx => ?_⟩
    obtain ⟨i, hi, rfl⟩ := List.getElem_of_mem hx
    rw [List.length_drop] at hi
    have := h ((j + 1 + i : Nat) : Int) (by omega) (by omega)
    rw [rd_nat l (by omega)] at this
    rw [List.getElem_drop]
    exact this
  · rintro ⟨h1, h2⟩ m hm0 hm1
    obtain ⟨i, rfl⟩ := Int.eq_ofNat_of_zero_le (show 0 ≤ m by omega)
    rw [rd_nat l (by omega)]
    by_cases hij : i = j
    · subst hij; exact h1
    · refine h2 _ (List.mem_drop_iff_getElem.2 ⟨i - (j + 1), by omega, ?_⟩)
      congr 1
      omega
theorem blank_of1 {c : S53} (h : c.f0 = 1) : blankB c = true := by unfold blankB; simp [h]
theorem hang_of2 {c : S53} (h : c.f0 = 2) : hangB c = true := by unfold hangB; simp [h]
theorem rolesL_eq (l : List S53) : rolesL l = rolesZ true l := by
  have hlen : (rolesL l).length = l.length := by unfold rolesL; rw [markL_len, markL_len, markL_len, List.length_replicate]
  refine List.ext_getElem (by rw [hlen, rolesZ_len]) fun j h1 h2 => ?_
  have hj : j < l.length := by omega
  have e1 : ∀ (x : List Int) (h : j < x.length), x[j] = rd x (j : Int) := fun x h => by unfold rd; simp [List.getD, h]
  rw [e1 _ h1, e1 _ h2, rolesZ_get true l j hj]
  have hup : ∀ i ∈ wayL l blankB 1 (l.length + 1) 0, 0 ≤ i := fun i hi => ((way_up l blankB _ 0 (by omega) (by omega) i).1 hi).1
  have hdn : ∀ p, ∀ i ∈ wayL l p (-1) (l.length + 1) ((l.length : Int) - 1), 0 ≤ i := fun p i hi => ((way_down l p _ ((l.length : Int) - 1) (by omega) (by omega) (by omega) i).1 hi).1
  unfold rolesL
  rw [markL_get _ _ _ _ _ _ (hdn _) (by rw [markL_len, markL_len, List.length_replicate]; exact hj), markL_get _ _ _ _ _ _ (hdn _) (by rw [markL_len, List.length_replicate]; exact hj), markL_get _ _ _ _ _ _ hup (by rw [List.length_replicate]; exact hj)]
  have a1 := all_take l blankB j hj
  have a2 := all_drop l blankB j hj
  have a3 := all_drop l hangB j hj
  have q1 : (j : Int) ∈ wayL l hangB (-1) (l.length + 1) ((l.length : Int) - 1) ↔ (hangB l[j] = true ∧ (l.drop (j + 1)).all hangB = true) := (way_down l hangB (l.length + 1) ((l.length : Int) - 1) (by omega) (by omega) (by omega) (j : Int)).trans ⟨fun h => a3.1 h.2.2, fun h => ⟨by omega, by omega, a3.2 h⟩⟩
  have q2 : (j : Int) ∈ wayL l blankB (-1) (l.length + 1) ((l.length : Int) - 1) ↔ (blankB l[j] = true ∧ (l.drop (j + 1)).all blankB = true) := (way_down l blankB (l.length + 1) ((l.length : Int) - 1) (by omega) (by omega) (by omega) (j : Int)).trans ⟨fun h => a2.1 h.2.2, fun h => ⟨by omega, by omega, a2.2 h⟩⟩
  have q3 : (j : Int) ∈ wayL l blankB 1 (l.length + 1) 0 ↔ ((l.take j).all blankB = true ∧ blankB l[j] = true) := (way_up l blankB (l.length + 1) 0 (by omega) (by omega) (j : Int)).trans ⟨fun h => a1.1 h.2.2, fun h => ⟨by omega, by omega, a1.2 h⟩⟩
  have cond : ∀ {p q : Prop} [hp : Decidable p] [hq : Decidable q] (_ : p ↔ q) (a b : Int), @ite Int p hp a b = @ite Int q hq a b := by
    intro p q hp hq h a b
    by_cases hh : p
    · rw [if_pos hh, if_pos (h.1 hh)]
    · rw [if_neg hh, if_neg (fun x => hh (h.2 x))]
  have z : rd (List.replicate l.length (0 : Int)) (j : Int) = 0 := by unfold rd; simp [List.getD, hj]
  have ef : (rd_T53 l (j : Int)).f0 = l[j].f0 := by rw [rd_nat l hj]
  rw [cond (and_congr_left' q1), cond (and_congr_left' q2), cond (and_congr_left' q3), z]
  simp only [ef]
  unfold roleZ
  by_cases k1 : l[j].f0 = 1
  · have k2 : ¬ l[j].f0 = 2 := by omega
    have kb := blank_of1 k1
    simp only [k1, kb]
    by_cases c1 : (l.drop (j + 1)).all blankB = true <;> by_cases c2 : (l.take j).all blankB = true <;> simp [c1, c2]
  · by_cases k2 : l[j].f0 = 2
    · have kb := hang_of2 k2
      simp only [k2, kb]
      by_cases c1 : (l.drop (j + 1)).all hangB = true <;> simp [c1]
    · simp [k1, k2]
theorem roles_ev {l : List S53} (hl : l.length ≤ 100000) : trim_Roles.f l = some (rolesZ true l) := by
  unfold trim_Roles.f
  rw [if_pos (by omega), rolesL_eq]
/-- What hangs is gone. -/
def unH (r : Int) : Int := if r = 2 then 1 else r
theorem hangG_len (t : List Int) : ∀ n, (hangG t n).length = t.length
  | 0 => rfl
  | n + 1 => by
    simp only [hangG]
    split <;> simp [hangG_len t n]
theorem hangG_get (t : List Int) (j : Nat) (hj : j < t.length) : ∀ n, n ≤ t.length → rd (hangG t n) (j : Int) = if j < n then unH (rd t (j : Int)) else rd t (j : Int)
  | 0, _ => by simp [hangG]
  | n + 1, hn => by
    have ih := hangG_get t j hj n (by omega)
    have en : ∀ x : List Int, rdOf (0 : Int) x (n : Int) = rd x (n : Int) := fun x => rfl
    simp only [hangG]
    rw [en]
    by_cases hjn : j = n
    · subst hjn
      rw [if_neg (by omega)] at ih
      rw [ih, if_pos (show j < j + 1 by omega)]
      unfold unH
      by_cases h2 : rd t (j : Int) = 2
      · rw [if_pos h2, if_pos h2, rd_set _ _ _ _ (by rw [hangG_len]; exact hj), if_pos rfl]
      · rw [if_neg h2, if_neg h2, ih]
    · have e : (j < n + 1) = (j < n) := by apply propext; omega
      simp only [e]
      rw [← ih]
      split
      · rw [rd_set _ _ _ _ (by rw [hangG_len]; exact hj), if_neg (by omega)]
      · rfl
theorem hangG_map (t : List Int) : hangG t t.length = t.map unH := by
  refine List.ext_getElem (by rw [hangG_len, List.length_map]) fun j h1 h2 => ?_
  rw [List.length_map] at h2
  have := hangG_get t j h2 t.length (Nat.le_refl _)
  rw [if_pos h2] at this
  have e1 : ∀ (x : List Int) (h : j < x.length), x[j] = rd x (j : Int) := fun x h => by unfold rd; simp [List.getD, h]
  rw [List.getElem_map, e1 _ h1, this, e1 _ h2]
/-- The end of what is walked. -/
def endR (rs : List Int) (l : List S53) (x : Int) : Int × Int := if (pensR rs l x).2 = 0 then (lastD x (pensR rs l x).1.tail, 0) else (0, (pensR rs l x).2)
theorem walk_len : ∀ {rs : List Int} {l : List S53} {i : Nat} {x : Int} {ys : List Int}, walk rs l i x = some ys → ys.length = l.length
  | rs, [], i, x, ys, h => by simp only [walk, Option.some.injEq] at h; rw [← h]; rfl
  | rs, c :: l, i, x, ys, h => by
    simp only [walk] at h
    obtain ⟨y, _, h2⟩ := Option.bind_eq_some_iff.1 h
    obtain ⟨zs, h3, h4⟩ := Option.map_eq_some_iff.1 h2
    rw [← h4]
    simp [walk_len h3]
theorem end_tail {rs : List Int} {l : List S53} {x : Int} (hlen : l.length ≤ 100000) {bt : List Int × Int} (hb : bt = pensR rs l x) :
    (if bt.2 = 0 then (if 0 ≤ (wrap64 ((bt.1.length : Int) - 1)) then (if (wrap64 ((bt.1.length : Int) - 1)) < (bt.1.length : Int) then (some (rd bt.1 (wrap64 ((bt.1.length : Int) - 1)), (0 : Int))) else (none)) else (none)) else (some (0, bt.2))) = some (endR rs l x) := by
  subst hb
  unfold endR
  rcases pensR_or rs l x with ⟨e, he, _, hp⟩ | ⟨ys, hp, hw, _, _⟩
  · rw [hp, if_neg he, if_neg he]
  · rw [hp, if_pos rfl, if_pos rfl]
    have hy := walk_len hw
    have e1 : wrap64 (((x :: ys).length : Int) - 1) = (ys.length : Int) := by rw [ws (by simp only [List.length_cons]; omega) (by simp only [List.length_cons]; omega)]; simp only [List.length_cons]; omega
    simp only []
    rw [e1, if_pos (by omega), if_pos (by simp only [List.length_cons]; omega), rd_last]
    rfl
theorem end_eq {rs : List Int} {l : List S53} {x : Int} (hlen : l.length ≤ 100000) (hl : ∀ c ∈ l, okC c) (hx : in64 x) : tabs_End.f l rs x = some (endR rs l x) := by
  unfold tabs_End.f
  rw [pens_eq (by omega) hl hx]
  exact end_tail hlen rfl
theorem fits_eq {l : List S53} {x : Int} (hlen : l.length ≤ 100000) (hl : ∀ c ∈ l, okC c) (hx : in64 x) : trim_Fits.f l x = some (endR ((rolesZ true l).map unH) l x) := by
  unfold trim_Fits.f
  rw [roles_ev hlen, Option.bind_some, hangG_map, end_eq hlen hl hx]
  rfl
end Go.Proofs.Ytkaiibipcnlaiaa.PureF

namespace Go.Proofs.Ytkaiibipcnlaiaa.PureF
set_option linter.unusedVariables false
set_option linter.unusedSimpArgs false
open Go.RowKit Go.Proofs.YtkaiibipcnlaiaaW.PrintWords Go.Proofs.YtkaiibipcnlaiaaW.PrintLast Go.Proofs.YtkaiibipcnlaiaaW.PrintMore Go.Proofs.Ytkaiibipcnlaiaa.Hand Go.Proofs.Ytkaiibipcnlaiaa.HEll
end Go.Proofs.Ytkaiibipcnlaiaa.PureF
namespace Go.Proofs.Ytkaiibipcnlaiaa.PureF
set_option linter.unusedVariables false
set_option linter.unusedSimpArgs false
open Go.RowKit Go.Proofs.YtkaiibipcnlaiaaW.PrintWords Go.Proofs.YtkaiibipcnlaiaaW.PrintLast Go.Proofs.YtkaiibipcnlaiaaW.PrintMore Go.Proofs.Ytkaiibipcnlaiaa.Hand Go.Proofs.Ytkaiibipcnlaiaa.HEll
def nz (own : List S53) (st : Int) : Int × Int := endR ((rolesZ true own).map unH) own st
def pz (own : List S53) (st : Int) : List Int × Int := pensR (rolesZ true own) own st
def cutV (own : List S53) (l1 : List Bool) (fr te wd st dots : Int) : Int × Int × Bool × Int :=
  if (nz own st).2 = 0 then (if (pz own st).2 = 0 then (cutTo (pz own st).1 l1 fr te (nz own st).1 wd dots, rd (pz own st).1 (cutTo (pz own st).1 l1 fr te (nz own st).1 wd dots - fr), decide ((nz own st).1 > wd), 0) else (0, 0, false, (pz own st).2)) else (0, 0, false, (nz own st).2)
def cutZ (l0 : List S53) (l1 : List Bool) (fr te wd st dots : Int) : Int × Int × Bool × Int :=
  if cutOk l0 l1 fr te wd dots then cutV (segC l0 fr te) l1 fr te wd st dots else (0, 0, false, 2)
theorem segC_ok {l0 : List S53} (hl : ∀ c ∈ l0, okC c) (fr te : Int) : ∀ c ∈ segC l0 fr te, okC c := fun c hc => hl c (List.mem_of_mem_take (List.mem_of_mem_drop hc))
theorem segC_le (l0 : List S53) (fr te : Int) : (segC l0 fr te).length ≤ l0.length := by
  unfold segC
  rw [List.length_drop, List.length_take]
  omega
theorem pz_or (own : List S53) (st : Int) : (∃ e, e ≠ 0 ∧ pz own st = ([], e)) ∨ (∃ ys, pz own st = (st :: ys, 0) ∧ ys.length = own.length) := by
  unfold pz
  rcases pensR_or (rolesZ true own) own st with ⟨e, he, _, hp⟩ | ⟨ys, hp, hw, _, _⟩
  · exact .inl ⟨e, he, hp⟩
  · exact .inr ⟨ys, hp, walk_len hw⟩
theorem pz_len {own : List S53} {st : Int} (h : (pz own st).2 = 0) : (pz own st).1.length = own.length + 1 := by
  rcases pz_or own st with ⟨e, he, hp⟩ | ⟨ys, hp, hw⟩
  · rw [hp] at h; exact absurd h he
  · rw [hp]; simp [hw]
theorem cut_eq {l0 : List S53} (hlen : l0.length ≤ 1000) (hl : ∀ c ∈ l0, okC c) (l1 : List Bool) (fr te : Int) (fo : Bool) (wd : Int) {st : Int} (hst : in64 st) (dots : Int) :
    ellipsis_Cut.f l0 l1 fr te fo wd st dots = some (cutZ l0 l1 fr te wd st dots) := by
  unfold ellipsis_Cut.f cutZ
  by_cases hok : cutOk l0 l1 fr te wd dots
  · rw [if_pos hok, if_pos hok]
    have hsl := segC_le l0 fr te
    have hso := segC_ok hl fr te
    generalize segC l0 fr te = own at hsl hso ⊢
    have hF : trim_Fits.f own st = some (nz own st) := fits_eq (by omega) hso hst
    have hR : trim_Roles.f own = some (rolesZ true own) := roles_ev (by omega)
    have hP : tabs_Pens.f own (rolesZ true own) st = some (pz own st) := pens_eq (by omega) hso hst
    rw [hF, Option.bind_some]
    unfold cutV
    by_cases hn : (nz own st).2 = 0
    · rw [if_pos hn, if_pos hn, hR, Option.bind_some, hP, Option.bind_some]
      by_cases hp : (pz own st).2 = 0
      · rw [if_pos hp, if_pos hp, if_pos (by rw [pz_len hp]; omega)]
      · rw [if_neg hp, if_neg hp]
    · rw [if_neg hn, if_neg hn]
  · rw [if_neg hok, if_neg hok]
/-! ### The document's answer -/
end Go.Proofs.Ytkaiibipcnlaiaa.PureF
namespace Go.Proofs.Ytkaiibipcnlaiaa.PureF
set_option linter.unusedVariables false
set_option linter.unusedSimpArgs false
open Go.RowKit Go.Proofs.YtkaiibipcnlaiaaW.PrintWords Go.Proofs.YtkaiibipcnlaiaaW.PrintLast Go.Proofs.YtkaiibipcnlaiaaW.PrintMore Go.Proofs.Ytkaiibipcnlaiaa.Hand Go.Proofs.Ytkaiibipcnlaiaa.HEll
theorem great_eq (l0 : List S53) (l1 : List Bool) (a b : Int) (c : Bool) (d : Int) : stickfullaw26_great.f l0 l1 a b c d = some (decide ((l0.length : Int) > 100) || decide ((l1.length : Int) > 150)) := by
  unfold stickfullaw26_great.f
  by_cases h : (l0.length : Int) > 100
  · rw [if_pos h, decide_eq_true h]; rfl
  · rw [if_neg h, decide_eq_false h, Bool.false_or]
theorem walk_fits : ∀ {rs : List Int} {l : List S53} {i : Nat} {x : Int} {ys : List Int}, fits x → walk rs l i x = some ys → ∀ y ∈ ys, fits y
  | rs, [], i, x, ys, hx, h => by simp only [walk, Option.some.injEq] at h; rw [← h]; exact fun y hy => by cases hy
  | rs, c :: l, i, x, ys, hx, h => by
    simp only [walk] at h
    obtain ⟨y, h1, h2⟩ := Option.bind_eq_some_iff.1 h
    obtain ⟨zs, h3, h4⟩ := Option.map_eq_some_iff.1 h2
    have hy := nxtR_fits hx h1
    have hz := walk_fits hy h3
    rw [← h4]
    exact fun z h5 => by
      rcases List.mem_cons.1 h5 with rfl | h6
      · exact hy
      · exact hz z h6
theorem fits_rd {l : List Int} (h : ∀ y ∈ l, fits y) (q : Int) : fits (rd l q) := by
  unfold rd
  rw [List.getD_eq_getElem?_getD]
  cases hq : l[q.toNat]? with
  | none => unfold fits; simp
  | some v => exact h v (List.mem_of_getElem? hq)
/-- The pens of a line: an error, or the first of them is the start, and all fit. -/
theorem pz_or2 (own : List S53) (st : Int) : (∃ e, e ≠ 0 ∧ pz own st = ([], e)) ∨ (∃ ys, pz own st = (st :: ys, 0) ∧ ys.length = own.length ∧ ∀ y ∈ st :: ys, fits y) := by
  unfold pz
  rcases pensR_or (rolesZ true own) own st with ⟨e, he, _, hp⟩ | ⟨ys, hp, hw, hf, _⟩
  · exact .inl ⟨e, he, hp⟩
  · exact .inr ⟨ys, hp, walk_len hw, fun y hy => by
      rcases List.mem_cons.1 hy with rfl | h
      · exact hf
      · exact walk_fits hf hw y h⟩
theorem bk_le (l : List Bool) (fr te : Int) : ∀ (n : Nat) (p : Int), ∀ q ∈ backL l fr te n p, q ≤ p
  | 0, _, q, hq => by cases hq
  | n + 1, p, q, hq => by
    unfold backL at hq
    split at hq
    · split at hq
      · rcases List.mem_cons.1 hq with rfl | h
        · omega
        · have := bk_le l fr te n (p - 1) q h; omega
      · have := bk_le l fr te n (p - 1) q hq; omega
    · cases hq
theorem firstL_spec (P : Int → Bool) (o : Int) : ∀ xs : List Int, firstL P o xs = o ∨ (firstL P o xs ∈ xs ∧ P (firstL P o xs) = true)
  | [] => .inl rfl
  | x :: xs => by
    unfold firstL
    split
    · rename_i h
      exact .inr ⟨List.mem_cons_self .., h⟩
    · rcases firstL_spec P o xs with h | ⟨h1, h2⟩
      · exact .inl h
      · exact .inr ⟨List.mem_cons_of_mem _ h1, h2⟩
/-- The first that may is the greatest. -/
theorem firstL_max (P : Int → Bool) (o : Int) (l : List Bool) (fr te : Int) : ∀ (n : Nat) (p q : Int), q ∈ backL l fr te n p → P q = true → q ≤ firstL P o (backL l fr te n p)
  | 0, p, q, h, _ => by cases h
  | n + 1, p, q, h, hq => by
    unfold backL at h ⊢
    split at h
    · rename_i h0
      rw [if_pos h0]
      split at h
      · rename_i h1
        rw [if_pos h1]
        unfold firstL
        rcases List.mem_cons.1 h with rfl | h2
        · rw [if_pos hq]; exact Int.le_refl _
        · have h3 := bk_le l fr te n (p - 1) q h2
          split
          · omega
          · exact firstL_max P o l fr te n (p - 1) q h2 hq
      · rename_i h1
        rw [if_neg h1]
        exact firstL_max P o l fr te n (p - 1) q h hq
    · cases h
theorem firstL_mono (P Q : Int → Bool) (l : List Bool) (fr te : Int) (h : ∀ q, P q = true → Q q = true) (n : Nat) (p : Int) (hp : p ≤ te) : firstL P fr (backL l fr te n p) ≤ firstL Q fr (backL l fr te n p) := by
  rcases firstL_spec P fr (backL l fr te n p) with h1 | ⟨h1, h2⟩
  · rw [h1]
    rcases firstL_spec Q fr (backL l fr te n p) with h3 | ⟨h3, _⟩
    · rw [h3]; exact Int.le_refl _
    · exact (backL_in l fr te n p hp _ h3).1
  · exact firstL_max Q fr l fr te n p _ h1 (h _ h2)
theorem cutTo_mono (ps : List Int) (l1 : List Bool) (fr te n : Int) {wd wd2 dots dots2 : Int} (h : fr ≤ te) (hw : wd ≤ wd2) (hb : ∀ q, cutB ps fr dots wd q = true → cutB ps fr dots2 wd2 q = true) : cutTo ps l1 fr te n wd dots ≤ cutTo ps l1 fr te n wd2 dots2 := by
  unfold cutTo
  by_cases h2 : n > wd2
  · rw [if_pos (by omega), if_pos h2]
    exact firstL_mono _ _ _ _ _ hb _ _ (Int.le_refl _)
  · rw [if_neg h2]
    have := (cutTo_in ps l1 fr te n wd dots h).2
    unfold cutTo at this
    exact this
theorem cutB_wider {ps : List Int} {fr dots wd wd2 q : Int} (h : wd ≤ wd2) (hb : cutB ps fr dots wd q = true) : cutB ps fr dots wd2 q = true := by
  unfold cutB at hb ⊢
  have := of_decide_eq_true hb
  exact decide_eq_true (by omega)
theorem cutB_eq {ps : List Int} (hf : ∀ y ∈ ps, fits y) {fr dots wd q : Int} (h0 : 0 ≤ dots) (h1 : dots ≤ 1073741824) : cutB ps fr dots wd q = decide (rd ps (q - fr) + dots ≤ wd) := by
  have := fits_rd hf (q - fr)
  unfold fits at this
  unfold cutB
  rw [ws (by omega) (by omega)]
theorem cutB_dots {ps : List Int} (hf : ∀ y ∈ ps, fits y) {fr dots dots2 wd q : Int} (h0 : 0 ≤ dots) (h1 : dots ≤ dots2) (h2 : dots2 ≤ 1073741824) (hb : cutB ps fr dots2 wd q = true) : cutB ps fr dots wd q = true := by
  rw [cutB_eq hf (by omega) (by omega)] at hb ⊢
  have := of_decide_eq_true hb
  exact decide_eq_true (by omega)
end Go.Proofs.Ytkaiibipcnlaiaa.PureF
namespace Go.Proofs.Ytkaiibipcnlaiaa.HEll
open Go.RowKit Go.Proofs.YtkaiibipcnlaiaaW.PrintWords Go.Proofs.YtkaiibipcnlaiaaW.PrintLast Go.Proofs.YtkaiibipcnlaiaaW.PrintMore Go.Proofs.Ytkaiibipcnlaiaa.Hand
/-- What the law stickfullaw26_EllipsisGrows asks of the plain functions. -/
def stickfullaw26_EllipsisGrows.Pure : Prop := ∀ (x0 : S27) (x1 : S29) (x2 : S51), W27 x0 → W29 x1 → W51 x2 → ∃ k, stickfullaw26_EllipsisGrows.f k x0.f0 x0.f1 x0.f2.f0 x0.f2.f1 x0.f2.f2 x0.f3 x1.f0 x1.f1 x2.f0 x2.f1 = some true
end Go.Proofs.Ytkaiibipcnlaiaa.HEll
namespace Go.Proofs.Ytkaiibipcnlaiaa.PureF
set_option linter.unusedVariables false
set_option linter.unusedSimpArgs false
open Go.RowKit Go.Proofs.YtkaiibipcnlaiaaW.PrintWords Go.Proofs.YtkaiibipcnlaiaaW.PrintLast Go.Proofs.YtkaiibipcnlaiaaW.PrintMore Go.Proofs.Ytkaiibipcnlaiaa.Hand Go.Proofs.Ytkaiibipcnlaiaa.HEll
theorem cutZ_bad {l0 : List S53} {l1 : List Bool} {fr te wd dots : Int} (st : Int) (h : ¬ cutOk l0 l1 fr te wd dots) : cutZ l0 l1 fr te wd st dots = (0, 0, false, 2) := by
  unfold cutZ
  rw [if_neg h]
theorem cutZ_nz {l0 : List S53} {l1 : List Bool} {fr te wd st dots : Int} (h : cutOk l0 l1 fr te wd dots) (hn : (nz (segC l0 fr te) st).2 ≠ 0) : cutZ l0 l1 fr te wd st dots = (0, 0, false, (nz (segC l0 fr te) st).2) := by
  unfold cutZ cutV
  rw [if_pos h, if_neg hn]
theorem cutZ_pz {l0 : List S53} {l1 : List Bool} {fr te wd st dots e : Int} (h : cutOk l0 l1 fr te wd dots) (hn : (nz (segC l0 fr te) st).2 = 0) (hp : pz (segC l0 fr te) st = ([], e)) (he : e ≠ 0) : cutZ l0 l1 fr te wd st dots = (0, 0, false, e) := by
  unfold cutZ cutV
  rw [if_pos h, if_pos hn, hp, if_neg he]
theorem cutZ_ok {l0 : List S53} {l1 : List Bool} {fr te wd st dots : Int} {ps : List Int} (h : cutOk l0 l1 fr te wd dots) (hn : (nz (segC l0 fr te) st).2 = 0) (hp : pz (segC l0 fr te) st = (ps, 0)) :
    cutZ l0 l1 fr te wd st dots = (cutTo ps l1 fr te (nz (segC l0 fr te) st).1 wd dots, rd ps (cutTo ps l1 fr te (nz (segC l0 fr te) st).1 wd dots - fr), decide ((nz (segC l0 fr te) st).1 > wd), 0) := by
  unfold cutZ cutV
  rw [if_pos h, if_pos hn, hp, if_pos rfl]
theorem growsJ2 (a e b f c : Int) (wd st : Int) (h : e = f ∨ wd < 0) : Ev (fun k => stickfullaw26_EllipsisGrows.j2 k a e b f c true wd st) true := by
  refine Ev.step (fun k => ?_) head_ev2
  simp only [stickfullaw26_EllipsisGrows.j2]
  rw [if_pos trivial]
  by_cases h1 : e = f
  · rw [if_pos h1]
  · rw [if_neg h1, if_pos (h.resolve_left h1)]
theorem growsJ2b (a e b f c : Int) (wd st : Int) (h1 : a ≤ b) (h2 : c ≤ a) : Ev (fun k => stickfullaw26_EllipsisGrows.j2 k a e b f c false wd st) true := by
  refine Ev.step (fun k => ?_) head_ev2
  simp only [stickfullaw26_EllipsisGrows.j2]
  rw [if_neg (by decide), if_pos h1, if_pos h2]
def cuts3 (k : Nat) (A B C : Int × Int × Bool × Int) (wd st : Int) : Option Bool :=
  if A.2.2.2 = 0 then (if B.2.2.2 = 0 then (stickfullaw26_EllipsisGrows.j2 k A.1 A.2.2.2 B.1 B.2.2.2 C.1 (C.2.2.2 != 0) wd st) else (stickfullaw26_EllipsisGrows.j2 k A.1 A.2.2.2 B.1 B.2.2.2 C.1 true wd st)) else (stickfullaw26_EllipsisGrows.j2 k A.1 A.2.2.2 B.1 B.2.2.2 C.1 true wd st)
theorem cuts3_bad {A B C : Int × Int × Bool × Int} {wd : Int} (st : Int) (hA : A.2.2.2 ≠ 0) (h : A.2.2.2 = B.2.2.2 ∨ wd < 0) : Ev (fun k => cuts3 k A B C wd st) true := by
  refine Ev.congr (fun k => ?_) (growsJ2 A.1 A.2.2.2 B.1 B.2.2.2 C.1 wd st h)
  unfold cuts3
  rw [if_neg hA]
theorem grows_cuts (l0 : List S53) (l1 : List Bool) (fr te : Int) (dots wd st m0 m1 : Int) (h0 : 0 ≤ m0) (h1 : 0 ≤ m1) (h2 : m0 ≤ 1099511627776) (h3 : m1 ≤ 1099511627776) (h4 : wd ≤ 1125899906842624) (hwd : in64 wd) :
    Ev (fun k => cuts3 k (cutZ l0 l1 fr te wd st dots) (cutZ l0 l1 fr te (wrap64 (wd + m0)) st dots) (cutZ l0 l1 fr te wd st (mn (wrap64 (dots + m1)) 1073741824)) wd st) true := by
  have ew : wrap64 (wd + m0) = wd + m0 := ws (by have := hwd.1; omega) (by omega)
  rw [ew]
  by_cases hw : wd < 0
  · exact cuts3_bad st (by rw [cutZ_bad st (fun h => by have := h.2.1; omega)]; decide) (.inr hw)
  · by_cases hok : cutOk l0 l1 fr te wd dots
    · have hok2 : cutOk l0 l1 fr te (wd + m0) dots := ⟨hok.1, by omega, hok.2.2⟩
      obtain ⟨i0, o1, o2, o3⟩ := hok
      have hok : cutOk l0 l1 fr te wd dots := ⟨i0, o1, o2, o3⟩
      have em : dots ≤ mn (wrap64 (dots + m1)) 1073741824 ∧ mn (wrap64 (dots + m1)) 1073741824 ≤ 1073741824 := by
        unfold mn
        rw [ws (by omega) (by omega)]
        split <;> omega
      have hok3 : cutOk l0 l1 fr te wd (mn (wrap64 (dots + m1)) 1073741824) := ⟨i0, o1, by omega, em.2⟩
      by_cases hn : (nz (segC l0 fr te) st).2 = 0
      · rcases pz_or2 (segC l0 fr te) st with ⟨e, he, hp⟩ | ⟨ys, hp, hl, hf⟩
        · exact cuts3_bad st (by rw [cutZ_pz hok hn hp he]; exact he) (.inl (by rw [cutZ_pz hok hn hp he, cutZ_pz hok2 hn hp he]))
        · rw [cutZ_ok hok hn hp, cutZ_ok hok2 hn hp, cutZ_ok hok3 hn hp]
          refine Ev.congr (fun k => ?_) (growsJ2b (cutTo (st :: ys) l1 fr te (nz (segC l0 fr te) st).1 wd dots) 0 (cutTo (st :: ys) l1 fr te (nz (segC l0 fr te) st).1 (wd + m0) dots) 0 (cutTo (st :: ys) l1 fr te (nz (segC l0 fr te) st).1 wd (mn (wrap64 (dots + m1)) 1073741824)) wd st ?_ ?_)
          · unfold cuts3
            rw [if_pos rfl, if_pos rfl]
            rfl
          · exact cutTo_mono _ _ _ _ _ i0.2.2.1 (by omega) (fun q hq => cutB_wider (by omega) hq)
          · exact cutTo_mono _ _ _ _ _ i0.2.2.1 (by omega) (fun q hq => cutB_dots hf o2 em.1 em.2 hq)
      · exact cuts3_bad st (by rw [cutZ_nz hok hn]; exact hn) (.inl (by rw [cutZ_nz hok hn, cutZ_nz hok2 hn]))
    · have hok2 : ¬ cutOk l0 l1 fr te (wd + m0) dots := fun h => hok ⟨h.1, by omega, h.2.2⟩
      exact cuts3_bad st (by rw [cutZ_bad st hok]; decide) (.inl (by rw [cutZ_bad st hok, cutZ_bad st hok2]))
theorem grows_l0 (l0 : List S53) (l1 : List Bool) (fr te : Int) (fo : Bool) (dots wd st m0 m1 : Int) (hlen : l0.length ≤ 100) (hl : ∀ c ∈ l0, okC c) (hst : in64 st) (h0 : 0 ≤ m0) (h1 : 0 ≤ m1) (h2 : m0 ≤ 1099511627776) (h3 : m1 ≤ 1099511627776) (h4 : wd ≤ 1125899906842624) (hwd : in64 wd) :
    ∀ (r i : Nat), i + r = l0.length → Ev (fun k => stickfullaw26_EllipsisGrows.l0 k (i : Int) l0 l1 fr te fo dots wd st m0 m1) true := by
  intro r
  induction r with
  | zero =>
    intro i hi
    refine Ev.step (fun k => ?_) (grows_cuts l0 l1 fr te dots wd st m0 m1 h0 h1 h2 h3 h4 hwd)
    simp only [stickfullaw26_EllipsisGrows.l0]
    rw [if_neg (by omega), cut_eq (by omega) hl _ _ _ _ _ hst, Option.bind_some, cut_eq (by omega) hl _ _ _ _ _ hst, Option.bind_some, cut_eq (by omega) hl _ _ _ _ _ hst, Option.bind_some]
    rfl
  | succ r ih =>
    intro i hi
    by_cases hc : (rd_T53 l0 (i : Int)).f3 < 0
    · refine Ev.step (fun k => ?_) head_ev2
      simp only [stickfullaw26_EllipsisGrows.l0]
      rw [if_pos (by omega), if_pos (by omega), if_pos hc]
    · refine Ev.step (fun k => ?_) (ih (i + 1) (by omega))
      simp only [stickfullaw26_EllipsisGrows.l0]
      rw [if_pos (by omega), if_pos (by omega), if_neg hc, w1 (by omega)]
theorem grows_ev (l0 : List S53) (l1 : List Bool) (fr te : Int) (fo : Bool) (dots wd st m0 m1 : Int) (hl : ∀ c ∈ l0, okC c) (hst : in64 st) (hwd : in64 wd) : Ev (fun k => stickfullaw26_EllipsisGrows.f k l0 l1 fr te fo dots wd st m0 m1) true := by
  have bad : Ev (fun k => stickfullaw26_EllipsisGrows.j0 k true l0 l1 fr te fo dots wd st m0 m1) true := by
    refine Ev.step (fun k => ?_) head_ev2
    simp only [stickfullaw26_EllipsisGrows.j0]
    rw [if_pos trivial]
  unfold stickfullaw26_EllipsisGrows.f
  refine Ev.congr (fun k => by rw [great_eq, Option.bind_some]) ?_
  cases hg : decide ((l0.length : Int) > 100) || decide ((l1.length : Int) > 150) with
  | true => exact Ev.congr (fun k => if_pos rfl) bad
  | false =>
    have hlen : l0.length ≤ 100 := by simp at hg; omega
    refine Ev.congr (fun k => if_neg (by decide)) ?_
    by_cases h0 : m0 < 0
    · exact Ev.congr (fun k => if_pos h0) bad
    refine Ev.congr (fun k => if_neg h0) ?_
    by_cases h1 : m1 < 0
    · exact Ev.congr (fun k => if_pos h1) bad
    refine Ev.congr (fun k => if_neg h1) ?_
    by_cases h2 : m0 > 1099511627776
    · exact Ev.congr (fun k => if_pos h2) bad
    refine Ev.congr (fun k => if_neg h2) ?_
    by_cases h3 : m1 > 1099511627776
    · exact Ev.congr (fun k => if_pos h3) bad
    refine Ev.congr (fun k => if_neg h3) ?_
    by_cases h4 : wd > 1125899906842624
    · rw [decide_eq_true h4]
      exact bad
    · rw [decide_eq_false h4]
      refine Ev.step (fun k => ?_) (grows_l0 l0 l1 fr te fo dots wd st m0 m1 hlen hl hst (by omega) (by omega) (by omega) (by omega) (by omega) hwd l0.length 0 (by omega))
      simp only [stickfullaw26_EllipsisGrows.j0]
      rw [if_neg (by decide)]
      rfl
end Go.Proofs.Ytkaiibipcnlaiaa.PureF
namespace Go.Proofs.Ytkaiibipcnlaiaa.Pure
open Go.RowKit Go.Proofs.YtkaiibipcnlaiaaW.PrintWords Go.Proofs.YtkaiibipcnlaiaaW.PrintLast Go.Proofs.YtkaiibipcnlaiaaW.PrintMore Go.Proofs.Ytkaiibipcnlaiaa.Hand Go.Proofs.Ytkaiibipcnlaiaa.HEll
theorem EllipsisGrows : stickfullaw26_EllipsisGrows.Pure := fun x0 x1 x2 h0 h1 _ => (PureF.grows_ev x0.f0 x0.f1 x0.f2.f0 x0.f2.f1 x0.f2.f2 x0.f3 x1.f0 x1.f1 x2.f0 x2.f1 (fun c hc => PureF.okC_of (h0.1.2.2 c hc)) (PureF.i64_of h1.2) (PureF.i64_of h1.1)).rounds
end Go.Proofs.Ytkaiibipcnlaiaa.Pure
