/- Plain laws of chapter 26: pens and roles, what fits, and the document's own answers. No condition of its own. -/
import Derived.Test.YtkaiibipcnlaiaaHEllx0
import Derived.Test.YtkaiibipcnlaiaaHEllx1
import Derived.Test.YtkaiibipcnlaiaaHEllx2
import Derived.Test.YtkaiibipcnlaiaaHEllx6
import Derived.Test.YtkaiibipcnlaiaaHEllx7
import Derived.Test.YtkaiibipcnlaiaaHEllx8
import Derived.Test.YtkaiibipcnlaiaaHEllx10
import Derived.Test.YtkaiibipcnlaiaaHEllx11
import Derived.Test.YtkaiibipcnlaiaaHEllx12
import Derived.Test.YtkaiibipcnlaiaaHEllx14
import Derived.Test.YtkaiibipcnlaiaaHEllx15
import Derived.Test.YtkaiibipcnlaiaaHEllx16
import Derived.Test.YtkaiibipcnlaiaaHEllx17
import Derived.Test.YtkaiibipcnlaiaaHEllx18
import Derived.Test.YtkaiibipcnlaiaaHEllx19
import Derived.Test.YtkaiibipcnlaiaaHEllx20
import Derived.Test.YtkaiibipcnlaiaaSayEll
import Derived.Test.YtkaiibipcnlaiaaHEllx21
namespace Go.Proofs.Ytkaiibipcnlaiaa.PureF
open Go.RowKit Go.Proofs.YtkaiibipcnlaiaaW.PrintWords Go.Proofs.YtkaiibipcnlaiaaW.PrintLast Go.Proofs.YtkaiibipcnlaiaaW.PrintMore Go.Proofs.Ytkaiibipcnlaiaa.Hand Go.Proofs.Ytkaiibipcnlaiaa.HEll
def fits (x : Int) : Prop := -4611686018427387904 ≤ x ∧ x ≤ 4611686018427387904
instance (x : Int) : Decidable (fits x) := by unfold fits; exact inferInstance
def fitO (s : Int) : Option Int := if fits s then some s else none
/-- The pen behind a cell that may be. -/
def nxt (c : S53) (x : Int) : Option Int := if c.f0 = 4 then (if c.f3 = 0 then some x else fitO (x - x % c.f3 + c.f3)) else fitO (x + c.f3)
def nxtR (r : Int) (c : S53) (x : Int) : Option Int := if r = 1 then some x else nxt c x
/-- The pens behind cells. -/
def walk (rs : List Int) : List S53 → Nat → Int → Option (List Int)
  | [], _, _ => some []
  | c :: l, i, x => (nxtR (roleAt rs i) c x).bind fun y => (walk rs l (i + 1) y).map (y :: ·)
def pensR (rs : List Int) (l : List S53) (x : Int) : List Int × Int :=
  if l.any badTab then ([], 2) else if fits x then (match walk rs l 0 x with | some ys => (x :: ys, 0) | none => ([], 10)) else ([], 10)
def okC (c : S53) : Prop := in64 c.f3

theorem ws {x : Int} (h1 : -9223372036854775808 ≤ x) (h2 : x ≤ 9223372036854775807) : wrap64 x = x := by
  unfold wrap64
  omega
theorem sum_ok {l : List Int} (h : ∀ x ∈ l, in64 x) (hl : l.length ≤ 1000) : unit_Sum.f l = some (if fits l.sum then (l.sum, 0) else (0, 10)) := by
  unfold unit_Sum.f
  rw [if_pos ⟨h, by omega⟩]
  by_cases hf : fits l.sum
  · rw [if_pos hf]; exact if_pos hf
  · rw [if_neg hf]; exact if_neg hf
theorem in_of_fits {x : Int} (h : fits x) : in64 x := by unfold fits at h; unfold in64; omega
theorem tmod_cases {x d : Int} (hd : 0 < d) : (x.tmod d < 0 ∧ x % d = x.tmod d + d) ∨ (¬ x.tmod d < 0 ∧ x % d = x.tmod d) := by
  have h1 : 0 ≤ x % d := Int.emod_nonneg x (by omega)
  have h2 : x % d < d := Int.emod_lt_of_pos x hd
  rcases Int.le_total 0 x with hx | hx
  · right
    rw [Int.tmod_eq_emod_of_nonneg hx]
    exact ⟨by omega, rfl⟩
  · have e : x.tmod d = -((-x).tmod d) := by rw [Int.neg_tmod]; omega
    rw [Int.tmod_eq_emod_of_nonneg (show 0 ≤ -x by omega)] at e
    have h3 : 0 ≤ (-x) % d := Int.emod_nonneg (-x) (by omega)
    have h4 : (-x) % d < d := Int.emod_lt_of_pos (-x) hd
    have h5 : ((-x) % d + x % d) % d = 0 := by rw [← Int.add_emod]; simp [Int.add_left_neg]
    by_cases hz : (-x) % d = 0
    · right
      rw [hz] at h5 e
      rw [Int.zero_add, Int.emod_emod_of_dvd x (Int.dvd_refl d)] at h5
      omega
    · left
      have h6 : (-x) % d + x % d = d := by
        by_cases hc : (-x) % d + x % d < d
        · rw [Int.emod_eq_of_lt (by omega) hc] at h5
          omega
        · have : ((-x) % d + x % d - d) % d = 0 := by rw [Int.sub_emod_right]; exact h5
          rw [Int.emod_eq_of_lt (by omega) (by omega)] at this
          omega
      omega
theorem step_eq {c : S53} (hc : okC c) (hb : badTab c = false) {x : Int} (hx : fits x) : stepC c x = some (match nxt c x with | some y => (y, 0) | none => (0, 10)) := by
  have hx1 := in_of_fits hx
  have s1 : unit_Sum.f [x] = some (x, 0) := by
    rw [sum_ok (by simpa using hx1) (by simp)]
    simp only [List.sum_cons, List.sum_nil, Int.add_zero]
    rw [if_pos hx]
  unfold stepC tabs_Step.f nxt
  rw [s1]
  simp only [Option.bind_some]
  by_cases h4 : c.f0 = 4
  · rw [if_pos h4, if_pos h4]
    have h3 : ¬ c.f3 < 0 := by
      intro h
      unfold badTab at hb
      rw [h4, decide_eq_true h] at hb
      cases hb
    rw [decide_eq_false h3]
    simp only [tabs_Step.j0]
    rw [if_neg (by decide), if_pos h4, if_pos trivial]
    by_cases h0 : c.f3 = 0
    · rw [if_pos h0, if_pos h0]
    · rw [if_neg h0, if_neg h0]
      have hd : 0 < c.f3 := by omega
      have hi : c.f3 ≤ 9223372036854775807 := hc.2
      have hm1 : 0 ≤ x % c.f3 := Int.emod_nonneg x (by omega)
      have hm2 : x % c.f3 < c.f3 := Int.emod_lt_of_pos x hd
      have key : unit_Stop.f x c.f3 = some (if fits (x - x % c.f3 + c.f3) then (x - x % c.f3 + c.f3, 0) else (0, 10)) := by
        unfold unit_Stop.f
        rw [if_neg (by omega), if_neg h0]
        rcases tmod_cases (x := x) hd with ⟨ht, he⟩ | ⟨ht, he⟩
        · rw [if_pos ht, show wrap64 (x.tmod c.f3 + c.f3) = x % c.f3 by rw [he]; exact ws (by omega) (by omega), ws (x := -(x % c.f3)) (by omega) (by omega), sum_ok (by
            intro y hy
            simp at hy
            rcases hy with rfl | rfl | rfl
            · exact hx1
            · unfold in64; omega
            · exact hc) (by simp)]
          have es : [x, -(x % c.f3), c.f3].sum = x - x % c.f3 + c.f3 := by simp; omega
          rw [es]
          simp only [Option.bind_some]
        · rw [if_neg ht, ← he, ws (x := -(x % c.f3)) (by omega) (by omega), sum_ok (by
            intro y hy
            simp at hy
            rcases hy with rfl | rfl | rfl
            · exact hx1
            · unfold in64; omega
            · exact hc) (by simp)]
          have es : [x, -(x % c.f3), c.f3].sum = x - x % c.f3 + c.f3 := by simp; omega
          rw [es]
          simp only [Option.bind_some]
      rw [key]
      unfold fitO
      by_cases hf : fits (x - x % c.f3 + c.f3)
      · rw [if_pos hf, if_pos hf]; rfl
      · rw [if_neg hf, if_neg hf]; rfl
  · rw [if_neg h4, if_neg h4]
    simp only [tabs_Step.j0]
    rw [if_neg (by decide), if_neg h4, sum_ok (by
      intro y hy
      simp at hy
      rcases hy with rfl | rfl
      · exact hx1
      · exact hc) (by simp)]
    have es : [x, c.f3].sum = x + c.f3 := by simp
    rw [es]
    unfold fitO
    by_cases hf : fits (x + c.f3)
    · rw [if_pos hf, if_pos hf]; rfl
    · rw [if_neg hf, if_neg hf]; rfl
theorem nxt_fits {c : S53} {x y : Int} (hx : fits x) (h : nxt c x = some y) : fits y := by
  unfold nxt fitO at h
  split at h
  · split at h
    · cases h; exact hx
    · split at h
      · cases h; assumption
      · cases h
  · split at h
    · cases h; assumption
    · cases h
theorem nxtR_fits {r : Int} {c : S53} {x y : Int} (hx : fits x) (h : nxtR r c x = some y) : fits y := by
  unfold nxtR at h
  split at h
  · cases h; exact hx
  · exact nxt_fits hx h
theorem pen_eq {c : S53} (hc : okC c) (hb : badTab c = false) {r x : Int} (hx : fits x) : penOf c r x = some (match nxtR r c x with | some y => (y, 0) | none => (0, 10)) := by
  unfold penOf nxtR
  by_cases h : r = 1
  · rw [if_pos h, if_pos h]
  · rw [if_neg h, if_neg h]; exact step_eq hc hb hx
theorem lastE_cons {p : Int × Int} {ps : List (Int × Int)} (h : lastE ps = 10) : lastE (p :: ps) = 10 := by
  cases ps with
  | nil => cases h
  | cons q qs => exact h
theorem pensL_eq (rs : List Int) : ∀ (l : List S53) (i : Nat) (x : Int), (∀ c ∈ l, okC c ∧ badTab c = false) → fits x →
    ∃ ps, pensL rs l i x = some ps ∧ (match walk rs l i x with | some ys => ps = ys.map (fun y => (y, 0)) | none => lastE ps = 10)
  | [], i, x, _, _ => ⟨[], rfl, rfl⟩
  | c :: l, i, x, hl, hx => by
    obtain ⟨hc, hb⟩ := hl c (List.mem_cons_self ..)
    have hl2 : ∀ c ∈ l, okC c ∧ badTab c = false := fun d hd => hl d (List.mem_cons_of_mem _ hd)
    simp only [pensL, walk]
    rw [pen_eq hc hb hx]
    cases hn : nxtR (roleAt rs i) c x with
    | none => exact ⟨[(0, 10)], by simp, by simp [lastE]⟩
    | some y =>
      obtain ⟨ps, h1, h2⟩ := pensL_eq rs l (i + 1) y hl2 (nxtR_fits hx hn)
      refine ⟨(y, 0) :: ps, by simp [h1], ?_⟩
      simp only [Option.bind_some]
      cases hw : walk rs l (i + 1) y with
      | none => rw [hw] at h2; exact lastE_cons h2
      | some ys => rw [hw] at h2; simp only [Option.map_some]; rw [h2]; rfl
theorem pens_eq {l : List S53} {rs : List Int} {x : Int} (hlen : l.length ≤ 1000000000000) (hl : ∀ c ∈ l, okC c) (hx : in64 x) : tabs_Pens.f l rs x = some (pensR rs l x) := by
  unfold tabs_Pens.f pensR
  rw [if_pos hlen]
  by_cases hb : l.any badTab = true
  · rw [if_pos hb, if_pos hb]
  · rw [if_neg hb, if_neg hb]
    have s1 : unit_Sum.f [x] = some (if fits x then (x, 0) else (0, 10)) := by
      rw [sum_ok (by simpa using hx) (by simp)]
      simp
    rw [s1]
    by_cases hf : fits x
    · rw [if_pos hf, if_pos hf]
      simp only [Option.bind_some, if_true]
      have hl2 : ∀ c ∈ l, okC c ∧ badTab c = false := fun c hc => ⟨hl c hc, by
        cases h : badTab c with
        | false => rfl
        | true => exact absurd (List.any_eq_true.2 ⟨c, hc, h⟩) hb⟩
      obtain ⟨ps, h1, h2⟩ := pensL_eq rs l 0 x hl2 hf
      rw [h1]
      simp only [Option.bind_some]
      cases hw : walk rs l 0 x with
      | none => rw [hw] at h2; simp only at h2; rw [h2]; rfl
      | some ys =>
        rw [hw] at h2
        simp only at h2
        have hz : lastE ps = 0 := lastE_zero (fun q hq => by rw [h2] at hq; obtain ⟨y, _, rfl⟩ := List.mem_map.1 hq; rfl)
        rw [if_pos hz, h2, List.map_map]
        congr 2
        exact congrArg _ (List.map_id'' (fun _ => rfl) ys)
    · rw [if_neg hf, if_neg hf]
      simp
end Go.Proofs.Ytkaiibipcnlaiaa.PureF

namespace Go.Proofs.Ytkaiibipcnlaiaa.PureF
open Go.RowKit Go.Proofs.YtkaiibipcnlaiaaW.PrintWords Go.Proofs.YtkaiibipcnlaiaaW.PrintLast Go.Proofs.YtkaiibipcnlaiaaW.PrintMore Go.Proofs.Ytkaiibipcnlaiaa.Hand Go.Proofs.Ytkaiibipcnlaiaa.HEll
theorem i64_of {n : Int} (h : (Lit.int .i64 n).wf = true) : in64 n := by
  have h2 : IntKind.i64.min ≤ n ∧ n ≤ IntKind.i64.max := by simpa [Lit.wf] using h
  have e1 : IntKind.i64.min = -9223372036854775808 := rfl
  have e2 : IntKind.i64.max = 9223372036854775807 := rfl
  unfold in64
  omega
theorem okC_of {c : S53} (h : W53 c) : okC c := i64_of h.2.2.2.1
theorem head_ev : Ev (fun k => stickfullaw26_head.f k) true := Ev.of (fun k => stickfullaw26_head.mono k) (k := 100) (by kernel_rfl)
theorem head_ev2 : Ev (fun k => (stickfullaw26_head.f k).bind fun t => some t) true := Ev.bind head_ev (Ev.now true)
theorem w1 {n : Nat} (h : n ≤ 1000000000) : wrap64 ((n : Int) + 1) = ((n + 1 : Nat) : Int) := by rw [ws (by omega) (by omega)]; rfl
def lastD : Int → List Int → Int
  | x, [] => x
  | _, y :: ys => lastD y ys
theorem rd_last : ∀ (x : Int) (ys : List Int), rd (x :: ys) ((ys.length : Nat) : Int) = lastD x ys
  | x, [] => rfl
  | x, y :: ys => by
    rw [lastD, ← rd_last y ys]
    unfold rd
    simp [List.getD]
/-- What Pens tells: an error and no pens, or all pens. -/
theorem pensR_or (rs : List Int) (l : List S53) (x : Int) :
    (∃ e, e ≠ 0 ∧ (e = 2 ∨ e = 10) ∧ pensR rs l x = ([], e)) ∨ (∃ ys, pensR rs l x = (x :: ys, 0) ∧ walk rs l 0 x = some ys ∧ fits x ∧ l.any badTab = false) := by
  unfold pensR
  by_cases hb : l.any badTab = true
  · rw [if_pos hb]; exact .inl ⟨2, by decide, .inl rfl, rfl⟩
  · rw [if_neg hb]
    by_cases hf : fits x
    · rw [if_pos hf]
      cases walk rs l 0 x with
      | none => exact .inl ⟨10, by decide, .inr rfl, rfl⟩
      | some ys => exact .inr ⟨ys, rfl, rfl, hf, by simpa using hb⟩
    · rw [if_neg hf]; exact .inl ⟨10, by decide, .inr rfl, rfl⟩
end Go.Proofs.Ytkaiibipcnlaiaa.PureF

namespace Go.Proofs.Ytkaiibipcnlaiaa.PureF
set_option linter.unusedVariables false
set_option linter.unusedSimpArgs false
open Go.RowKit Go.Proofs.YtkaiibipcnlaiaaW.PrintWords Go.Proofs.YtkaiibipcnlaiaaW.PrintLast Go.Proofs.YtkaiibipcnlaiaaW.PrintMore Go.Proofs.Ytkaiibipcnlaiaa.Hand Go.Proofs.Ytkaiibipcnlaiaa.HEll
/-- The role of a cell behind cells that are blank or not, ahead of others. -/
def roleZ (a : Bool) (c : S53) (s : List S53) : Int :=
  if c.f0 = 1 ∧ (a = true ∨ s.all blankB = true) then 1 else if c.f0 = 2 ∧ s.all hangB = true then 2 else 0
def rolesZ : Bool → List S53 → List Int
  | _, [] => []
  | a, c :: s => roleZ a c s :: rolesZ (a && blankB c) s
theorem rolesZ_len : ∀ (a : Bool) (l : List S53), (rolesZ a l).length = l.length
  | _, [] => rfl
  | a, c :: s => by simp [rolesZ, rolesZ_len (a && blankB c) s]
theorem rd_nat (l : List S53) {i : Nat} (hi : i < l.length) : rd_T53 l (i : Int) = l[i] := by
  unfold rd_T53
  simp [List.getD, hi]
theorem rolesZ_get : ∀ (a : Bool) (l : List S53) (i : Nat) (hi : i < l.length), rd (rolesZ a l) (i : Int) = roleZ (a && (l.take i).all blankB) l[i] (l.drop (i + 1))
  | _, [], i, hi => by simp at hi
  | a, c :: s, 0, hi => by simp [rolesZ, rd]
  | a, c :: s, i + 1, hi => by
    have h := rolesZ_get (a && blankB c) s i (by simpa using hi)
    simp only [rolesZ]
    have e : rd (roleZ a c s :: rolesZ (a && blankB c) s) ((i + 1 : Nat) : Int) = rd (rolesZ (a && blankB c) s) (i : Int) := by
      unfold rd
      simp [List.getD]
    rw [e, h]
    simp [List.take_succ_cons, Bool.and_assoc]
/-- The ways from the front, and from the back. -/
theorem way_up (l : List S53) (p : S53 → Bool) : ∀ (n : Nat) (i : Int), 0 ≤ i → (l.length : Int) - i < n → ∀ j : Int, j ∈ wayL l p 1 n i ↔ i ≤ j ∧ j < (l.length : Int) ∧ ∀ m : Int, i ≤ m → m ≤ j → p (rd_T53 l m) = true
  | 0, i, h0, hn, j => by
    simp only [wayL, List.not_mem_nil, false_iff]
    rintro ⟨h1, h2, h3⟩
    omega
  | n + 1, i, h0, hn, j => by
    have ih := way_up l p n (i + 1) (by omega) (by omega) j
    simp only [wayL]
    by_cases hc : 0 ≤ i ∧ i < (l.length : Int) ∧ p (rd_T53 l i) = true
    · rw [if_pos hc, List.mem_cons, ih]
      constructor
      · rintro (rfl | ⟨h1, h2, h3⟩)
        · exact ⟨by omega, hc.2.1, fun m h4 h5 => by rw [show m = j by omega]; exact hc.2.2⟩
        · exact ⟨by omega, h2, fun m h4 h5 => by
            by_cases hm : m = i
            · rw [hm]; exact hc.2.2
            · exact h3 m (by omega) h5⟩
      · rintro ⟨h1, h2, h3⟩
        by_cases hj : j = i
        · exact .inl hj
        · exact .inr ⟨by omega, h2, fun m h4 h5 => h3 m (by omega) h5⟩
    · rw [if_neg hc]
      simp only [List.not_mem_nil, false_iff]
      rintro ⟨h1, h2, h3⟩
      exact hc ⟨h0, by omega, h3 i (by omega) (by omega)⟩
theorem way_down (l : List S53) (p : S53 → Bool) : ∀ (n : Nat) (i : Int), i < (l.length : Int) → -1 ≤ i → i + 1 < n → ∀ j : Int, j ∈ wayL l p (-1) n i ↔ 0 ≤ j ∧ j ≤ i ∧ ∀ m : Int, j ≤ m → m ≤ i → p (rd_T53 l m) = true
  | 0, i, h0, h1, hn, j => by omega
  | n + 1, i, h0, h1, hn, j => by
    simp only [wayL]
    by_cases hc : 0 ≤ i ∧ i < (l.length : Int) ∧ p (rd_T53 l i) = true
    · have ih := way_down l p n (i + -1) (by omega) (by omega) (by omega) j
      rw [if_pos hc, List.mem_cons, ih]
      constructor
      · rintro (rfl | ⟨h1, h2, h3⟩)
        · exact ⟨hc.1, by omega, fun m h4 h5 => by rw [show m = j by omega]; exact hc.2.2⟩
        · exact ⟨h1, by omega, fun m h4 h5 => by
            by_cases hm : m = i
            · rw [hm]; exact hc.2.2
            · exact h3 m h4 (by omega)⟩
      · rintro ⟨h1, h2, h3⟩
        by_cases hj : j = i
        · exact .inl hj
        · exact .inr ⟨h1, by omega, fun m h4 h5 => h3 m h4 (by omega)⟩
    · rw [if_neg hc]
      simp only [List.not_mem_nil, false_iff]
      rintro ⟨h1, h2, h3⟩
      exact hc ⟨by omega, h0, h3 i (by omega) (by omega)⟩
theorem markL_len (l : List S53) (kind role : Int) : ∀ (is out : List Int), (markL l kind role is out).length = out.length
  | [], out => rfl
  | i :: is, out => by
    have := markL_len l kind role is (if (rd_T53 l i).f0 = kind then out.set i.toNat role else out)
    unfold markL at this ⊢
    rw [List.foldl_cons, this]
    split <;> simp
theorem rd_set (out : List Int) (i j : Nat) (v : Int) (hj : j < out.length) : rd (out.set i v) (j : Int) = if i = j then v else rd out (j : Int) := by
  unfold rd
  simp only [Int.toNat_natCast, List.getD_eq_getElem?_getD, List.getElem?_set]
  by_cases h : i = j
  · subst h; simp [hj]
  · simp [h]
theorem markL_get (l : List S53) (kind role : Int) (j : Nat) : ∀ (is out : List Int), (∀ i ∈ is, 0 ≤ i) → j < out.length → rd (markL l kind role is out) (j : Int) = if (j : Int) ∈ is ∧ (rd_T53 l (j : Int)).f0 = kind then role else rd out (j : Int)
  | [], out, _, hj => by simp [markL]
  | i :: is, out, hi, hj => by
    have hi0 : 0 ≤ i := hi i (List.mem_cons_self ..)
    have ih := markL_get l kind role j is (if (rd_T53 l i).f0 = kind then out.set i.toNat role else out) (fun x hx => hi x (List.mem_cons_of_mem _ hx)) (by split <;> simpa using hj)
    have e : markL l kind role (i :: is) out = markL l kind role is (if (rd_T53 l i).f0 = kind then out.set i.toNat role else out) := rfl
    rw [e, ih]
    by_cases hm : (j : Int) ∈ is
    · simp only [hm, List.mem_cons, or_true, true_and]
      by_cases hk : (rd_T53 l (j : Int)).f0 = kind
      · rw [if_pos hk, if_pos hk]
      · rw [if_neg hk, if_neg hk]
        by_cases h2 : (rd_T53 l i).f0 = kind
        · rw [if_pos h2, rd_set _ _ _ _ hj, if_neg (fun h => hk (by rw [show (j : Int) = i by omega]; exact h2))]
        · rw [if_neg h2]
    · rw [if_neg (fun h => hm h.1)]
      by_cases hij : (j : Int) = i
      · subst hij
        by_cases hk : (rd_T53 l (j : Int)).f0 = kind
        · rw [if_pos hk, if_pos ⟨List.mem_cons_self .., hk⟩, Int.toNat_natCast, rd_set _ _ _ _ hj, if_pos rfl]
        · rw [if_neg hk, if_neg (fun h => hk h.2)]
      · have hnot : ¬ ((j : Int) ∈ i :: is ∧ (rd_T53 l (j : Int)).f0 = kind) := fun h => by
          rcases List.mem_cons.1 h.1 with h3 | h3
          · exact hij h3
          · exact hm h3
        rw [if_neg hnot]
        by_cases h2 : (rd_T53 l i).f0 = kind
        · rw [if_pos h2, rd_set _ _ _ _ hj, if_neg (by omega)]
        · rw [if_neg h2]
theorem all_take (l : List S53) (p : S53 → Bool) (j : Nat) (hj : j < l.length) : (∀ m : Int, 0 ≤ m → m ≤ (j : Int) → p (rd_T53 l m) = true) ↔ (l.take j).all p = true ∧ p l[j] = true := by
  rw [List.all_eq_true]
  constructor
  · intro h
    refine ⟨fun x hx => ?_, by have := h j (by omega) (by omega); rw [rd_nat l hj] at this; exact this⟩
    obtain ⟨i, hi, rfl⟩ := List.getElem_of_mem hx
    rw [List.length_take] at hi
    have := h (i : Int) (by omega) (by omega)
    rw [rd_nat l (by omega)] at this
    rw [List.getElem_take]
    exact this
  · rintro ⟨h1, h2⟩ m hm0 hm1
    obtain ⟨i, rfl⟩ := Int.eq_ofNat_of_zero_le hm0
    rw [rd_nat l (by omega)]
    by_cases hij : i = j
    · subst hij; exact h2
    · exact h1 _ (List.mem_take_iff_getElem.2 ⟨i, by omega, rfl⟩)
theorem all_drop (l : List S53) (p : S53 → Bool) (j : Nat) (hj : j < l.length) : (∀ m : Int, (j : Int) ≤ m → m ≤ (l.length : Int) - 1 → p (rd_T53 l m) = true) ↔ p l[j] = true ∧ (l.drop (j + 1)).all p = true := by
  rw [List.all_eq_true]
  constructor
  · intro h
    refine ⟨by have := h j (by omega) (by omega); rw [rd_nat l hj] at this; exact this, fun x hx => ?_⟩
    obtain ⟨i, hi, rfl⟩ := List.getElem_of_mem hx
    rw [List.length_drop] at hi
    have := h ((j + 1 + i : Nat) : Int) (by omega) (by omega)
    rw [rd_nat l (by omega)] at this
    rw [List.getElem_drop]
    exact this
  · rintro ⟨h1, h2⟩ m hm0 hm1
    obtain ⟨i, rfl⟩ := Int.eq_ofNat_of_zero_le (show 0 ≤ m by omega)
    rw [rd_nat l (by omega)]
    by_cases hij : i = j
    · subst hij; exact h1
    · refine h2 _ (List.mem_drop_iff_getElem.2 ⟨i - (j + 1), by omega, ?_⟩)
      congr 1
      omega
theorem blank_of1 {c : S53} (h : c.f0 = 1) : blankB c = true := by unfold blankB; simp [h]
theorem hang_of2 {c : S53} (h : c.f0 = 2) : hangB c = true := by unfold hangB; simp [h]
theorem rolesL_eq (l : List S53) : rolesL l = rolesZ true l := by
  have hlen : (rolesL l).length = l.length := by unfold rolesL; rw [markL_len, markL_len, markL_len, List.length_replicate]
  refine List.ext_getElem (by rw [hlen, rolesZ_len]) fun j h1 h2 => ?_
  have hj : j < l.length := by omega
  have e1 : ∀ (x : List Int) (h : j < x.length), x[j] = rd x (j : Int) := fun x h => by unfold rd; simp [List.getD, h]
  rw [e1 _ h1, e1 _ h2, rolesZ_get true l j hj]
  have hup : ∀ i ∈ wayL l blankB 1 (l.length + 1) 0, 0 ≤ i := fun i hi => ((way_up l blankB _ 0 (by omega) (by omega) i).1 hi).1
  have hdn : ∀ p, ∀ i ∈ wayL l p (-1) (l.length + 1) ((l.length : Int) - 1), 0 ≤ i := fun p i hi => ((way_down l p _ ((l.length : Int) - 1) (by omega) (by omega) (by omega) i).1 hi).1
  unfold rolesL
  rw [markL_get _ _ _ _ _ _ (hdn _) (by rw [markL_len, markL_len, List.length_replicate]; exact hj), markL_get _ _ _ _ _ _ (hdn _) (by rw [markL_len, List.length_replicate]; exact hj), markL_get _ _ _ _ _ _ hup (by rw [List.length_replicate]; exact hj)]
  have a1 := all_take l blankB j hj
  have a2 := all_drop l blankB j hj
  have a3 := all_drop l hangB j hj
  have q1 : (j : Int) ∈ wayL l hangB (-1) (l.length + 1) ((l.length : Int) - 1) ↔ (hangB l[j] = true ∧ (l.drop (j + 1)).all hangB = true) := (way_down l hangB (l.length + 1) ((l.length : Int) - 1) (by omega) (by omega) (by omega) (j : Int)).trans ⟨fun h => a3.1 h.2.2, fun h => ⟨by omega, by omega, a3.2 h⟩⟩
  have q2 : (j : Int) ∈ wayL l blankB (-1) (l.length + 1) ((l.length : Int) - 1) ↔ (blankB l[j] = true ∧ (l.drop (j + 1)).all blankB = true) := (way_down l blankB (l.length + 1) ((l.length : Int) - 1) (by omega) (by omega) (by omega) (j : Int)).trans ⟨fun h => a2.1 h.2.2, fun h => ⟨by omega, by omega, a2.2 h⟩⟩
  have q3 : (j : Int) ∈ wayL l blankB 1 (l.length + 1) 0 ↔ ((l.take j).all blankB = true ∧ blankB l[j] = true) := (way_up l blankB (l.length + 1) 0 (by omega) (by omega) (j : Int)).trans ⟨fun h => a1.1 h.2.2, fun h => ⟨by omega, by omega, a1.2 h⟩⟩
  have cond : ∀ {p q : Prop} [hp : Decidable p] [hq : Decidable q] (_ : p ↔ q) (a b : Int), @ite Int p hp a b = @ite Int q hq a b := by
    intro p q hp hq h a b
    by_cases hh : p
    · rw [if_pos hh, if_pos (h.1 hh)]
    · rw [if_neg hh, if_neg (fun x => hh (h.2 x))]
  have z : rd (List.replicate l.length (0 : Int)) (j : Int) = 0 := by unfold rd; simp [List.getD, hj]
  have ef : (rd_T53 l (j : Int)).f0 = l[j].f0 := by rw [rd_nat l hj]
  rw [cond (and_congr_left' q1), cond (and_congr_left' q2), cond (and_congr_left' q3), z]
  simp only [ef]
  unfold roleZ
  by_cases k1 : l[j].f0 = 1
  · have k2 : ¬ l[j].f0 = 2 := by omega
    have kb := blank_of1 k1
    simp only [k1, kb]
    by_cases c1 : (l.drop (j + 1)).all blankB = true <;> by_cases c2 : (l.take j).all blankB = true <;> simp [c1, c2]
  · by_cases k2 : l[j].f0 = 2
    · have kb := hang_of2 k2
      simp only [k2, kb]
      by_cases c1 : (l.drop (j + 1)).all hangB = true <;> simp [c1]
    · simp [k1, k2]
theorem roles_ev {l : List S53} (hl : l.length ≤ 100000) : trim_Roles.f l = some (rolesZ true l) := by
  unfold trim_Roles.f
  rw [if_pos (by omega), rolesL_eq]
/-- What hangs is gone. -/
def unH (r : Int) : Int := if r = 2 then 1 else r
theorem hangG_len (t : List Int) : ∀ n, (hangG t n).length = t.length
  | 0 => rfl
  | n + 1 => by
    simp only [hangG]
    split <;> simp [hangG_len t n]
theorem hangG_get (t : List Int) (j : Nat) (hj : j < t.length) : ∀ n, n ≤ t.length → rd (hangG t n) (j : Int) = if j < n then unH (rd t (j : Int)) else rd t (j : Int)
  | 0, _ => by simp [hangG]
  | n + 1, hn => by
    have ih := hangG_get t j hj n (by omega)
    have en : ∀ x : List Int, rdOf (0 : Int) x (n : Int) = rd x (n : Int) := fun x => rfl
    simp only [hangG]
    rw [en]
    by_cases hjn : j = n
    · subst hjn
      rw [if_neg (by omega)] at ih
      rw [ih, if_pos (show j < j + 1 by omega)]
      unfold unH
      by_cases h2 : rd t (j : Int) = 2
      · rw [if_pos h2, if_pos h2, rd_set _ _ _ _ (by rw [hangG_len]; exact hj), if_pos rfl]
      · rw [if_neg h2, if_neg h2, ih]
    · have e : (j < n + 1) = (j < n) := by apply propext; omega
      simp only [e]
      rw [← ih]
      split
      · rw [rd_set _ _ _ _ (by rw [hangG_len]; exact hj), if_neg (by omega)]
      · rfl
theorem hangG_map (t : List Int) : hangG t t.length = t.map unH := by
  refine List.ext_getElem (by rw [hangG_len, List.length_map]) fun j h1 h2 => ?_
  rw [List.length_map] at h2
  have := hangG_get t j h2 t.length (Nat.le_refl _)
  rw [if_pos h2] at this
  have e1 : ∀ (x : List Int) (h : j < x.length), x[j] = rd x (j : Int) := fun x h => by unfold rd; simp [List.getD, h]
  rw [List.getElem_map, e1 _ h1, this, e1 _ h2]
/-- The end of what is walked. -/
def endR (rs : List Int) (l : List S53) (x : Int) : Int × Int := if (pensR rs l x).2 = 0 then (lastD x (pensR rs l x).1.tail, 0) else (0, (pensR rs l x).2)
theorem walk_len : ∀ {rs : List Int} {l : List S53} {i : Nat} {x : Int} {ys : List Int}, walk rs l i x = some ys → ys.length = l.length
  | rs, [], i, x, ys, h => by simp only [walk, Option.some.injEq] at h; rw [← h]; rfl
  | rs, c :: l, i, x, ys, h => by
    simp only [walk] at h
    obtain ⟨y, _, h2⟩ := Option.bind_eq_some_iff.1 h
    obtain ⟨zs, h3, h4⟩ := Option.map_eq_some_iff.1 h2
    rw [← h4]
    simp [walk_len h3]
theorem end_tail {rs : List Int} {l : List S53} {x : Int} (hlen : l.length ≤ 100000) {bt : List Int × Int} (hb : bt = pensR rs l x) :
    (if bt.2 = 0 then (if 0 ≤ (wrap64 ((bt.1.length : Int) - 1)) then (if (wrap64 ((bt.1.length : Int) - 1)) < (bt.1.length : Int) then (some (rd bt.1 (wrap64 ((bt.1.length : Int) - 1)), (0 : Int))) else (none)) else (none)) else (some (0, bt.2))) = some (endR rs l x) := by
  subst hb
  unfold endR
  rcases pensR_or rs l x with ⟨e, he, _, hp⟩ | ⟨ys, hp, hw, _, _⟩
  · rw [hp, if_neg he, if_neg he]
  · rw [hp, if_pos rfl, if_pos rfl]
    have hy := walk_len hw
    have e1 : wrap64 (((x :: ys).length : Int) - 1) = (ys.length : Int) := by rw [ws (by simp only [List.length_cons]; omega) (by simp only [List.length_cons]; omega)]; simp only [List.length_cons]; omega
    simp only []
    rw [e1, if_pos (by omega), if_pos (by simp only [List.length_cons]; omega), rd_last]
    rfl
theorem end_eq {rs : List Int} {l : List S53} {x : Int} (hlen : l.length ≤ 100000) (hl : ∀ c ∈ l, okC c) (hx : in64 x) : tabs_End.f l rs x = some (endR rs l x) := by
  unfold tabs_End.f
  rw [pens_eq (by omega) hl hx]
  exact end_tail hlen rfl
theorem fits_eq {l : List S53} {x : Int} (hlen : l.length ≤ 100000) (hl : ∀ c ∈ l, okC c) (hx : in64 x) : trim_Fits.f l x = some (endR ((rolesZ true l).map unH) l x) := by
  unfold trim_Fits.f
  rw [roles_ev hlen, Option.bind_some, hangG_map, end_eq hlen hl hx]
  rfl
end Go.Proofs.Ytkaiibipcnlaiaa.PureF

namespace Go.Proofs.Ytkaiibipcnlaiaa.PureF
set_option linter.unusedVariables false
set_option linter.unusedSimpArgs false
open Go.RowKit Go.Proofs.YtkaiibipcnlaiaaW.PrintWords Go.Proofs.YtkaiibipcnlaiaaW.PrintLast Go.Proofs.YtkaiibipcnlaiaaW.PrintMore Go.Proofs.Ytkaiibipcnlaiaa.Hand Go.Proofs.Ytkaiibipcnlaiaa.HEll
theorem tdm (x : Int) : 1000000 * x.tdiv 1000000 + x.tmod 1000000 = x ∧ -1000000 < x.tmod 1000000 ∧ x.tmod 1000000 < 1000000 := by
  have h := Int.mul_tdiv_add_tmod x 1000000
  refine ⟨h, ?_, Int.tmod_lt_of_pos x (by decide)⟩
  have := Int.tmod_lt_of_pos (-x) (show (0 : Int) < 1000000 by decide)
  rw [Int.neg_tmod] at this
  omega
theorem rfits (x : Int) : stickfulref01_fits.f x = some (decide (fits x)) := by
  unfold stickfulref01_fits.f fits
  by_cases h1 : x ≥ -4611686018427387904
  · rw [if_pos h1]
    by_cases h2 : x ≤ 4611686018427387904 <;> simp [h2] <;> omega
  · rw [if_neg h1]; congr 1; exact (decide_eq_false (fun h => h1 h.1)).symm
theorem rfits12 (x : Int) : stickfulref12_fits.f x = some (decide (fits x)) := by
  unfold stickfulref12_fits.f fits
  by_cases h1 : x ≥ -4611686018427387904
  · rw [if_pos h1]
    by_cases h2 : x ≤ 4611686018427387904 <;> simp [h2] <;> omega
  · rw [if_neg h1]; congr 1; exact (decide_eq_false (fun h => h1 h.1)).symm
def sumE (s : Int) : Int × Int := if fits s then (s, 0) else (0, 10)
theorem rd_int (l : List Int) {i : Nat} (hi : i < l.length) : rd l (i : Int) = l[i] := by unfold rd; simp [List.getD, hi]
theorem rsum_l0 (l : List Int) (h : ∀ x ∈ l, in64 x) (hl : l.length ≤ 1000) : ∀ (r i : Nat) (hi lo : Int), i + r = l.length → -(i * 9223372036855) ≤ hi → hi ≤ i * 9223372036855 → -(i * 1000000) ≤ lo → lo ≤ i * 1000000 →
    Ev (fun k => stickfulref01_Sum.l0 k l hi lo (i : Int)) (sumE (1000000 * hi + lo + (l.drop i).sum)) := by
  intro r
  induction r with
  | zero =>
    intro i hi lo hir h1 h2 h3 h4
    have hd : (l.drop i).sum = 0 := by rw [List.drop_of_length_le (by omega)]; rfl
    rw [hd, Int.add_zero]
    obtain ⟨e1, e2, e3⟩ := tdm lo
    have b1 : -1000 ≤ lo.tdiv 1000000 ∧ lo.tdiv 1000000 ≤ 1000 := by constructor <;> omega
    have w1 : wrap64 (lo.tdiv 1000000) = lo.tdiv 1000000 := ws (by omega) (by omega)
    have w2 : wrap64 (hi + lo.tdiv 1000000) = hi + lo.tdiv 1000000 := ws (by omega) (by omega)
    have key : ∀ k, stickfulref01_Sum.l0 (k + 1) l hi lo (i : Int) = stickfulref01_Sum.j1 k (hi + lo.tdiv 1000000) (lo.tmod 1000000) (decide (hi + lo.tdiv 1000000 > 4611686018428) || decide (hi + lo.tdiv 1000000 < -4611686018428)) := by
      intro k
      simp only [stickfulref01_Sum.l0]
      rw [if_neg (by omega), w1, w2]
      by_cases c : hi + lo.tdiv 1000000 > 4611686018428
      · rw [if_pos c, decide_eq_true c]; rfl
      · rw [if_neg c, decide_eq_false c]; rfl
    refine Ev.step key ?_
    by_cases c : hi + lo.tdiv 1000000 > 4611686018428 ∨ hi + lo.tdiv 1000000 < -4611686018428
    · have ec : (decide (hi + lo.tdiv 1000000 > 4611686018428) || decide (hi + lo.tdiv 1000000 < -4611686018428)) = true := by simpa using c
      rw [ec]
      have nf : ¬ fits (1000000 * hi + lo) := by unfold fits; omega
      unfold sumE
      rw [if_neg nf]
      exact Ev.step (f := fun _ => some (0, 10)) (fun k => by simp only [stickfulref01_Sum.j1]; rw [if_pos trivial]) (Ev.now _)
    · have ec : (decide (hi + lo.tdiv 1000000 > 4611686018428) || decide (hi + lo.tdiv 1000000 < -4611686018428)) = false := by simp; omega
      rw [ec]
      have w3 : wrap64 ((hi + lo.tdiv 1000000) * 1000000) = (hi + lo.tdiv 1000000) * 1000000 := ws (by omega) (by omega)
      have w4 : wrap64 ((hi + lo.tdiv 1000000) * 1000000 + lo.tmod 1000000) = 1000000 * hi + lo := by rw [ws (by omega) (by omega)]; omega
      refine Ev.step (f := fun _ => some (sumE (1000000 * hi + lo))) (fun k => ?_) (Ev.now _)
      simp only [stickfulref01_Sum.j1]
      rw [if_neg (by decide), w3, w4, rfits]
      simp only [Option.bind_some]
      unfold sumE
      by_cases hf : fits (1000000 * hi + lo)
      · rw [decide_eq_true hf, if_pos rfl, if_pos hf]
      · rw [decide_eq_false hf, if_neg (by decide), if_neg hf]
  | succ r ih =>
    intro i hi lo hir h1 h2 h3 h4
    have hx := h l[i] (List.getElem_mem (by omega))
    unfold in64 at hx
    obtain ⟨e1, e2, e3⟩ := tdm l[i]
    have hd : (l.drop i).sum = l[i] + (l.drop (i + 1)).sum := by rw [List.drop_eq_getElem_cons (by omega), List.sum_cons]
    have e4 : 1000000 * hi + lo + (l.drop i).sum = 1000000 * (hi + (l[i]).tdiv 1000000) + (lo + (l[i]).tmod 1000000) + (l.drop (i + 1)).sum := by rw [hd]; omega
    rw [e4]
    refine Ev.step (fun k => ?_) (ih (i + 1) (hi + (l[i]).tdiv 1000000) (lo + (l[i]).tmod 1000000) (by omega) (by omega) (by omega) (by omega) (by omega))
    simp only [stickfulref01_Sum.l0]
    rw [if_pos (by omega), if_pos (by omega), rd_int l (by omega), ws (x := (l[i]).tdiv 1000000) (by omega) (by omega), ws (x := hi + (l[i]).tdiv 1000000) (by omega) (by omega), ws (x := lo + (l[i]).tmod 1000000) (by omega) (by omega), w1 (by omega)]
theorem rsum_ev {l : List Int} (h : ∀ x ∈ l, in64 x) (hl : l.length ≤ 1000) : Ev (fun k => stickfulref01_Sum.f k l) (sumE l.sum) := by
  have := rsum_l0 l h hl l.length 0 0 0 (by omega) (by omega) (by omega) (by omega) (by omega)
  have e : 1000000 * (0 : Int) + 0 + (l.drop 0).sum = l.sum := by simp
  rw [e] at this
  exact this
theorem rstep_ev {c : S53} (hc : okC c) (hb : badTab c = false) {x : Int} (hx : fits x) : Ev (fun k => stickfulref12_Step.f k c.f0 c.f1 c.f2 c.f3 c.f4 c.f5 x) (match nxt c x with | some y => (y, 0) | none => (0, 10)) := by
  have hx1 := in_of_fits hx
  unfold stickfulref12_Step.f nxt
  by_cases h4 : c.f0 = 4
  · have h3 : ¬ c.f3 < 0 := by
      intro h
      unfold badTab at hb
      rw [h4, decide_eq_true h] at hb
      cases hb
    simp only [if_pos h4]
    rw [decide_eq_false h3]
    by_cases h0 : c.f3 = 0
    · refine Ev.step (f := fun _ => some (x, 0)) (fun k => ?_) (by rw [if_pos h0]; exact Ev.now _)
      simp only [stickfulref12_Step.j0]
      rw [if_neg (by decide), if_pos h4, rfits12, decide_eq_true hx, Option.bind_some, if_pos rfl, if_pos h0]
    · have hd : 0 < c.f3 := by omega
      have hi : c.f3 ≤ 9223372036854775807 := hc.2
      have hm1 : 0 ≤ x % c.f3 := Int.emod_nonneg x (by omega)
      have hm2 : x % c.f3 < c.f3 := Int.emod_lt_of_pos x hd
      have key : Ev (fun k => stickfulref01_Stop.f k x c.f3) (sumE (x - x % c.f3 + c.f3)) := by
        have hs : Ev (fun k => (stickfulref01_Sum.f k [x, -(x % c.f3), c.f3]).bind fun bt => some (bt.1, bt.2)) (sumE (x - x % c.f3 + c.f3)) := by
          refine Ev.bind (a := sumE (x - x % c.f3 + c.f3)) ?_ (Ev.now _)
          have es : x - x % c.f3 + c.f3 = [x, -(x % c.f3), c.f3].sum := by simp; omega
          rw [es]
          refine rsum_ev ?_ (by simp)
          intro y hy
          simp at hy
          rcases hy with rfl | rfl | rfl
          · exact hx1
          · unfold in64; omega
          · exact hc
        refine Ev.congr (fun k => ?_) hs
        unfold stickfulref01_Stop.f
        rw [if_neg (by omega), if_neg h0]
        rcases tmod_cases (x := x) hd with ⟨ht, he⟩ | ⟨ht, he⟩
        · rw [if_pos ht, show wrap64 (x.tmod c.f3 + c.f3) = x % c.f3 by rw [he]; exact ws (by omega) (by omega), ws (x := -(x % c.f3)) (by omega) (by omega)]
        · rw [if_neg ht, ← he, ws (x := -(x % c.f3)) (by omega) (by omega)]
      refine Ev.step (f := fun k => (stickfulref01_Stop.f k x c.f3).bind fun bt => some (bt.1, bt.2)) (fun k => ?_) ?_
      · simp only [stickfulref12_Step.j0]
        rw [if_neg (by decide), if_pos h4, rfits12, decide_eq_true hx, Option.bind_some, if_pos rfl, if_neg h0]
      · refine Ev.bind key ?_
        rw [if_neg h0]
        unfold sumE fitO
        by_cases hf : fits (x - x % c.f3 + c.f3)
        · rw [if_pos hf, if_pos hf]; exact Ev.now _
        · rw [if_neg hf, if_neg hf]; exact Ev.now _
  · simp only [if_neg h4]
    refine Ev.step (f := fun k => (stickfulref01_Sum.f k [x, c.f3]).bind fun bt => some (bt.1, bt.2)) (fun k => ?_) ?_
    · simp only [stickfulref12_Step.j0]
      rw [if_neg (by decide), if_neg h4]
    · refine Ev.bind (rsum_ev (l := [x, c.f3]) (by
        intro y hy
        simp at hy
        rcases hy with rfl | rfl
        · exact hx1
        · exact hc) (by simp)) ?_
      have es : [x, c.f3].sum = x + c.f3 := by simp
      rw [es]
      unfold sumE fitO
      by_cases hf : fits (x + c.f3)
      · rw [if_pos hf, if_pos hf]; exact Ev.now _
      · rw [if_neg hf, if_neg hf]; exact Ev.now _
def penR (acc : List Int) (o : Option (List Int)) : List Int × Int := match o with | some ys => (acc ++ ys, 0) | none => ([], 10)
theorem rpens_l1 (l : List S53) (rs : List Int) (x0 : Int) (hlen : l.length ≤ 100000) (hl : ∀ c ∈ l, okC c ∧ badTab c = false) : ∀ (r i : Nat) (x : Int) (acc : List Int), i + r = l.length → acc.length ≤ i + 1 → fits x →
    Ev (fun k => stickfulref12_Pens.l1 k l rs x acc (i : Int)) (penR acc (walk rs (l.drop i) i x)) := by
  intro r
  induction r with
  | zero =>
    intro i x acc hi ha hx
    rw [List.drop_of_length_le (by omega)]
    refine Ev.step (f := fun _ => some (acc, 0)) (fun k => ?_) (by simp only [walk, penR, List.append_nil]; exact Ev.now _)
    simp only [stickfulref12_Pens.l1]
    rw [if_neg (by omega)]
  | succ r ih =>
    intro i x acc hi ha hx
    obtain ⟨hc, hb⟩ := hl l[i] (List.getElem_mem (by omega))
    rw [List.drop_eq_getElem_cons (by omega)]
    simp only [walk]
    have hp : ∀ k, stickfulref12_Pens.l1 (k + 1) l rs x acc (i : Int) = stickfulref12_Pens.j2 k l rs x acc (i : Int) (roleAt rs i == 1) := by
      intro k
      simp only [stickfulref12_Pens.l1]
      rw [if_pos (by omega)]
      unfold roleAt
      by_cases hr : (i : Int) < (rs.length : Int)
      · rw [if_pos hr, if_pos hr, if_pos (by omega)]
      · rw [if_neg hr, if_neg hr]; rfl
    refine Ev.step hp ?_
    unfold nxtR
    by_cases h1 : roleAt rs i = 1
    · rw [if_pos h1, h1]
      have := ih (i + 1) x (acc ++ [x]) (by omega) (by simp; omega) hx
      have e : penR acc ((some x).bind fun y => (walk rs (l.drop (i + 1)) (i + 1) y).map (y :: ·)) = penR (acc ++ [x]) (walk rs (l.drop (i + 1)) (i + 1) x) := by
        rw [Option.bind_some]
        cases walk rs (l.drop (i + 1)) (i + 1) x <;> simp [penR]
      rw [e]
      refine Ev.step (fun k => ?_) this
      simp only [stickfulref12_Pens.j2]
      rw [if_pos (by decide), if_pos (by omega), w1 (by omega)]
    · rw [if_neg h1, show (roleAt rs i == 1) = false by simpa using h1]
      refine Ev.step (f := fun k => (stickfulref12_Step.f k l[i].f0 l[i].f1 l[i].f2 l[i].f3 l[i].f4 l[i].f5 x).bind fun bt => if bt.2 = 0 then (if acc.length < 17592186044416 then (stickfulref12_Pens.l1 k l rs bt.1 (acc ++ [bt.1]) (wrap64 ((i : Int) + 1))) else (none)) else (some (([] : List Int), bt.2))) (fun k => ?_) (Ev.bind (rstep_ev hc hb hx) ?_)
      · simp only [stickfulref12_Pens.j2]
        rw [if_neg (by decide), if_pos (by omega), if_pos (by omega), rd_nat l (by omega)]
      · cases hn : nxt l[i] x with
        | none => exact Ev.congr (f := fun _ => some (([] : List Int), (10 : Int))) (fun k => if_neg (by decide)) (Ev.now _)
        | some y =>
          have hy := nxt_fits hx hn
          have := ih (i + 1) y (acc ++ [y]) (by omega) (by simp; omega) hy
          have e : penR acc ((some y).bind fun y => (walk rs (l.drop (i + 1)) (i + 1) y).map (y :: ·)) = penR (acc ++ [y]) (walk rs (l.drop (i + 1)) (i + 1) y) := by
            rw [Option.bind_some]
            cases walk rs (l.drop (i + 1)) (i + 1) y <;> simp [penR]
          rw [e]
          refine Ev.congr (fun k => ?_) this
          simp only []
          rw [if_pos trivial, if_pos (by omega), w1 (by omega)]
theorem rpens_l0 (l : List S53) (rs : List Int) (x : Int) (hlen : l.length ≤ 100000) (hl : ∀ c ∈ l, okC c) : ∀ (r i : Nat), i + r = l.length → (l.take i).any badTab = false →
    Ev (fun k => stickfulref12_Pens.l0 k l rs x (i : Int)) (pensR rs l x) := by
  intro r
  induction r with
  | zero =>
    intro i hi ht
    rw [List.take_of_length_le (by omega)] at ht
    refine Ev.step (f := fun k => if decide (fits x) = true then stickfulref12_Pens.l1 k l rs x [x] 0 else some ([], 10)) (fun k => ?_) ?_
    · simp only [stickfulref12_Pens.l0]
      rw [if_neg (by omega), rfits12]
      rfl
    · unfold pensR
      rw [ht, if_neg (by decide)]
      by_cases hf : fits x
      · rw [if_pos hf]
        refine Ev.congr (fun k => if_pos (decide_eq_true hf)) ?_
        have := rpens_l1 l rs x hlen (fun c hc => ⟨hl c hc, by simpa using List.any_eq_false.1 ht c hc⟩) l.length 0 x [x] (by omega) (by simp) hf
        rw [List.drop_zero] at this
        cases hw : walk rs l 0 x with
        | none => rw [hw] at this; exact this
        | some ys => rw [hw] at this; exact this
      · rw [if_neg hf]
        exact Ev.congr (fun k => if_neg (by simpa using hf)) (Ev.now _)
  | succ r ih =>
    intro i hi ht
    by_cases hb : badTab l[i] = true
    · have h2 : l[i].f0 = 4 ∧ l[i].f3 < 0 := by unfold badTab at hb; simpa using hb
      have e : pensR rs l x = ([], 2) := by
        unfold pensR
        rw [if_pos (List.any_eq_true.2 ⟨l[i], List.getElem_mem _, hb⟩)]
      rw [e]
      refine Ev.step (f := fun _ => some (([] : List Int), (2 : Int))) (fun k => ?_) (Ev.now _)
      simp only [stickfulref12_Pens.l0]
      rw [if_pos (by omega), if_pos (by omega), rd_nat l (by omega), if_pos h2.1, if_pos h2.2]
    · have hb2 : badTab l[i] = false := by simpa using hb
      refine Ev.step (fun k => ?_) (ih (i + 1) (by omega) (by rw [List.take_add_one, List.any_append, ht, List.getElem?_eq_getElem (by omega)]; simp [hb2]))
      simp only [stickfulref12_Pens.l0]
      rw [if_pos (by omega), if_pos (by omega), rd_nat l (by omega), w1 (by omega)]
      by_cases h4 : l[i].f0 = 4
      · have h3 : ¬ l[i].f3 < 0 := by
          intro h
          unfold badTab at hb2
          rw [h4, decide_eq_true h] at hb2
          cases hb2
        rw [if_pos h4, if_neg h3]
      · rw [if_neg h4]
theorem rend_ev {l : List S53} {rs : List Int} {x : Int} (hlen : l.length ≤ 100000) (hl : ∀ c ∈ l, okC c) : Ev (fun k => stickfulref12_End.f k l rs x) (endR rs l x) := by
  unfold stickfulref12_End.f
  refine Ev.bind (a := pensR rs l x) (rpens_l0 l rs x hlen hl l.length 0 (by omega) rfl) ?_
  exact Ev.congr (fun k => end_tail hlen rfl) (Ev.now _)
def justP (a b : Int) (c : S53) : Bool := edgeB c || (c.f0 == a || c.f0 == b)
theorem redge (c : S53) : stickfulref13_edge.f c.f0 c.f1 c.f2 c.f3 c.f4 c.f5 = some (edgeB c) := by
  unfold stickfulref13_edge.f edgeB
  by_cases h1 : c.f0 = 7
  · simp [h1]
  · by_cases h2 : c.f0 = 8
    · simp [h2]
    · have b1 : (c.f0 == 7) = false := by simpa using h1
      have b2 : (c.f0 == 8) = false := by simpa using h2
      rw [if_neg h1, if_neg h2, b1, b2]; rfl
theorem rjust_l0 (l : List S53) (a b : Int) (hlen : l.length ≤ 100000) : ∀ (r i : Nat), i + r = l.length → Ev (fun k => stickfulref13_just.l0 k l a b (i : Int)) ((l.drop i).all (justP a b)) := by
  intro r
  induction r with
  | zero =>
    intro i hi
    rw [List.drop_of_length_le (by omega)]
    refine Ev.step (f := fun _ => some true) (fun k => ?_) (Ev.now _)
    simp only [stickfulref13_just.l0]
    rw [if_neg (by omega)]
  | succ r ih =>
    intro i hi
    rw [List.drop_eq_getElem_cons (by omega), List.all_cons]
    by_cases hj : justP a b l[i] = true
    · rw [hj, Bool.true_and]
      refine Ev.step (fun k => ?_) (ih (i + 1) (by omega))
      simp only [stickfulref13_just.l0]
      rw [if_pos (by omega), if_pos (by omega), rd_nat l (by omega), redge, Option.bind_some, w1 (by omega)]
      unfold justP at hj
      by_cases e1 : edgeB l[i] = true
      · rw [if_pos e1]
      · by_cases e2 : l[i].f0 = a
        · rw [if_neg e1, if_pos e2]
        · have e3 : l[i].f0 = b := by simpa [e1, e2] using hj
          rw [if_neg e1, if_neg e2, if_pos e3]
    · have hj2 : justP a b l[i] = false := by simpa using hj
      rw [hj2, Bool.false_and]
      refine Ev.step (f := fun _ => some false) (fun k => ?_) (Ev.now _)
      simp only [stickfulref13_just.l0]
      rw [if_pos (by omega), if_pos (by omega), rd_nat l (by omega), redge, Option.bind_some]
      have h3 : edgeB l[i] = false ∧ ¬ l[i].f0 = a ∧ ¬ l[i].f0 = b := by unfold justP at hj2; simpa using hj2
      rw [h3.1, if_neg (by decide), if_neg h3.2.1, if_neg h3.2.2]
theorem rjust_ev (l : List S53) (a b : Int) (hlen : l.length ≤ 100000) : Ev (fun k => stickfulref13_just.f k l a b) (l.all (justP a b)) := rjust_l0 l a b hlen l.length 0 (by omega)
theorem just11 : justP 1 1 = blankB := by funext c; unfold justP blankB; simp
theorem just12 : justP 1 2 = hangB := by funext c; unfold justP hangB blankB; simp [Bool.or_assoc]
theorem rrole_ev (l : List S53) (i : Nat) (hi : i < l.length) (hlen : l.length ≤ 100000) : Ev (fun k => stickfulref13_Role.f k l (i : Int)) (roleZ ((l.take i).all blankB) l[i] (l.drop (i + 1))) := by
  unfold stickfulref13_Role.f
  have hw : wrap64 ((i : Int) + 1) = ((i + 1 : Nat) : Int) := w1 (by omega)
  have ht : ((i : Int)).toNat = i := rfl
  have ht2 : (((i + 1 : Nat) : Int)).toNat = i + 1 := rfl
  have j_true : Ev (fun k => stickfulref13_Role.j0 k l (i : Int) true) 1 := Ev.step (f := fun _ => some 1) (fun k => by simp only [stickfulref13_Role.j0]; rw [if_pos trivial]) (Ev.now _)
  have j_false : l[i].f0 ≠ 2 → Ev (fun k => stickfulref13_Role.j0 k l (i : Int) false) 0 := fun h => Ev.step (f := fun _ => some 0) (fun k => by
    simp only [stickfulref13_Role.j0]
    rw [if_neg (by decide), if_pos (by omega), if_pos (by omega), rd_nat l hi, if_neg h]) (Ev.now _)
  by_cases h1 : l[i].f0 = 1
  · have h2 : l[i].f0 ≠ 2 := by omega
    refine Ev.congr (f := fun k => (stickfulref13_just.f k (l.take i) 1 1).bind fun t221 => (if t221 = true then (stickfulref13_Role.j0 k l (i : Int) true) else ((stickfulref13_just.f k (l.drop (i + 1)) 1 1).bind fun t226 => (stickfulref13_Role.j0 k l (i : Int) t226)))) (fun k => ?_) ?_
    · rw [if_pos (by omega), if_pos (by omega), rd_nat l hi, if_pos h1, if_pos (by omega), hw, ht, ht2]
      simp only [show (0 : Int) ≤ ((i + 1 : Nat) : Int) by omega, show ((i + 1 : Nat) : Int) ≤ (l.length : Int) by omega, if_true]
    · refine Ev.bind (rjust_ev _ 1 1 (by rw [List.length_take]; omega)) ?_
      rw [just11]
      unfold roleZ
      by_cases c1 : (l.take i).all blankB = true
      · rw [if_pos ⟨h1, .inl c1⟩]
        exact Ev.congr (fun k => if_pos c1) j_true
      · refine Ev.congr (fun k => if_neg c1) ?_
        refine Ev.bind (rjust_ev _ 1 1 (by rw [List.length_drop]; omega)) ?_
        rw [just11]
        by_cases c2 : (l.drop (i + 1)).all blankB = true
        · rw [if_pos ⟨h1, .inr c2⟩, c2]; exact j_true
        · rw [if_neg (fun h => h.2.elim c1 c2), if_neg (fun h => h2 h.1), show (l.drop (i + 1)).all blankB = false by simpa using c2]
          exact j_false h2
  · refine Ev.congr (f := fun k => stickfulref13_Role.j0 k l (i : Int) false) (fun k => by rw [if_pos (by omega), if_pos (by omega), rd_nat l hi, if_neg h1]) ?_
    unfold roleZ
    rw [if_neg (fun h => h1 h.1)]
    by_cases h2 : l[i].f0 = 2
    · refine Ev.step (f := fun k => (stickfulref13_just.f k (l.drop (i + 1)) 1 2).bind fun t232 => (if t232 = true then (some 2) else (some 0))) (fun k => ?_) ?_
      · simp only [stickfulref13_Role.j0]
        rw [if_neg (by decide), if_pos (by omega), if_pos (by omega), rd_nat l hi, if_pos h2, hw, if_pos (by omega), if_pos (by omega), ht2]
      · refine Ev.bind (rjust_ev _ 1 2 (by rw [List.length_drop]; omega)) ?_
        rw [just12]
        by_cases c : (l.drop (i + 1)).all hangB = true
        · rw [if_pos (show l[i].f0 = 2 ∧ (l.drop (i + 1)).all hangB = true from ⟨h2, c⟩)]; exact Ev.congr (fun k => if_pos c) (Ev.now _)
        · rw [if_neg (show ¬ (l[i].f0 = 2 ∧ (l.drop (i + 1)).all hangB = true) from fun h => c h.2)]; exact Ev.congr (fun k => if_neg c) (Ev.now _)
    · rw [if_neg (fun h => h2 h.1)]
      exact j_false h2
theorem rrole_ev2 (l : List S53) (i : Nat) (hi : i < l.length) (hlen : l.length ≤ 100000) : Ev (fun k => stickfulref13_Role.f k l (i : Int)) (rd (rolesZ true l) (i : Int)) := by
  rw [rolesZ_get true l i hi, Bool.true_and]
  exact rrole_ev l i hi hlen
theorem take_rd (t : List Int) {i : Nat} (hi : i < t.length) : t.take i ++ [rd t (i : Int)] = t.take (i + 1) := by
  rw [List.take_add_one, List.getElem?_eq_getElem hi, rd_int t hi]; rfl
theorem rroles_l0 (l : List S53) (hlen : l.length ≤ 100000) : ∀ (r i : Nat), i + r = l.length → Ev (fun k => stickfulref13_Roles.l0 k l ((rolesZ true l).take i) (i : Int)) (rolesZ true l) := by
  intro r
  have hz := rolesZ_len true l
  induction r with
  | zero =>
    intro i hi
    rw [List.take_of_length_le (by omega)]
    refine Ev.step (f := fun _ => some (rolesZ true l)) (fun k => ?_) (Ev.now _)
    simp only [stickfulref13_Roles.l0]
    rw [if_neg (by omega)]
  | succ r ih =>
    intro i hi
    refine Ev.step (f := fun k => (stickfulref13_Role.f k l (i : Int)).bind fun t233 => (if ((rolesZ true l).take i).length < 140737488355328 then (stickfulref13_Roles.l0 k l (((rolesZ true l).take i) ++ [t233]) (wrap64 ((i : Int) + 1))) else (none))) (fun k => ?_) (Ev.bind (rrole_ev2 l i (by omega) hlen) ?_)
    · simp only [stickfulref13_Roles.l0]
      rw [if_pos (by omega)]
    · refine Ev.congr (fun k => ?_) (ih (i + 1) (by omega))
      rw [if_pos (by rw [List.length_take]; omega), take_rd _ (by omega), w1 (by omega)]
theorem rroles_ev (l : List S53) (hlen : l.length ≤ 100000) : Ev (fun k => stickfulref13_Roles.f k l) (rolesZ true l) := rroles_l0 l hlen l.length 0 (by omega)
theorem rfits_l0 {l : List S53} {x : Int} (hlen : l.length ≤ 100000) (hl : ∀ c ∈ l, okC c) (t : List Int) (ht : t.length ≤ 100000) : ∀ (r i : Nat), i + r = t.length → Ev (fun k => stickfulref13_Fits.l0 k l x (hangG t i) (i : Int)) (endR (t.map unH) l x) := by
  intro r
  induction r with
  | zero =>
    intro i hi
    have he : i = t.length := by omega
    subst he
    refine Ev.step (f := fun k => (stickfulref12_End.f k l (hangG t t.length) x).bind fun bt => some (bt.1, bt.2)) (fun k => ?_) ?_
    · simp only [stickfulref13_Fits.l0]
      rw [if_neg (by rw [hangG_len]; omega)]
    · rw [hangG_map]
      exact Ev.bind (rend_ev hlen hl) (Ev.now _)
  | succ r ih =>
    intro i hi
    refine Ev.step (fun k => ?_) (ih (i + 1) (by omega))
    simp only [stickfulref13_Fits.l0, hangG]
    rw [if_pos (by rw [hangG_len]; omega), if_pos (by omega), w1 (by omega)]
    have en : rdOf (0 : Int) (hangG t i) (i : Int) = rd (hangG t i) (i : Int) := rfl
    rw [en]
    by_cases h : rd (hangG t i) (i : Int) = 2
    · rw [if_pos h, if_pos h]; rfl
    · rw [if_neg h, if_neg h]
theorem rfits_ev {l : List S53} {x : Int} (hlen : l.length ≤ 100000) (hl : ∀ c ∈ l, okC c) : Ev (fun k => stickfulref13_Fits.f k l x) (endR ((rolesZ true l).map unH) l x) := by
  unfold stickfulref13_Fits.f
  exact Ev.bind (rroles_ev l hlen) (rfits_l0 hlen hl _ (by rw [rolesZ_len]; exact hlen) (rolesZ true l).length 0 (by omega))
end Go.Proofs.Ytkaiibipcnlaiaa.PureF
namespace Go.Proofs.Ytkaiibipcnlaiaa.PureF
set_option linter.unusedVariables false
set_option linter.unusedSimpArgs false
open Go.RowKit Go.Proofs.YtkaiibipcnlaiaaW.PrintWords Go.Proofs.YtkaiibipcnlaiaaW.PrintLast Go.Proofs.YtkaiibipcnlaiaaW.PrintMore Go.Proofs.Ytkaiibipcnlaiaa.Hand Go.Proofs.Ytkaiibipcnlaiaa.HEll
def nz (own : List S53) (st : Int) : Int × Int := endR ((rolesZ true own).map unH) own st
def pz (own : List S53) (st : Int) : List Int × Int := pensR (rolesZ true own) own st
def cutV (own : List S53) (l1 : List Bool) (fr te wd st dots : Int) : Int × Int × Bool × Int :=
  if (nz own st).2 = 0 then (if (pz own st).2 = 0 then (cutTo (pz own st).1 l1 fr te (nz own st).1 wd dots, rd (pz own st).1 (cutTo (pz own st).1 l1 fr te (nz own st).1 wd dots - fr), decide ((nz own st).1 > wd), 0) else (0, 0, false, (pz own st).2)) else (0, 0, false, (nz own st).2)
def cutZ (l0 : List S53) (l1 : List Bool) (fr te wd st dots : Int) : Int × Int × Bool × Int :=
  if cutOk l0 l1 fr te wd dots then cutV (segC l0 fr te) l1 fr te wd st dots else (0, 0, false, 2)
theorem segC_len {l0 : List S53} {fr te : Int} (h0 : 0 ≤ fr) (h1 : fr ≤ te) (h2 : te ≤ (l0.length : Int)) : ((segC l0 fr te).length : Int) = te - fr := by
  unfold segC
  rw [List.length_drop, List.length_take]
  omega
theorem segC_ok {l0 : List S53} (hl : ∀ c ∈ l0, okC c) (fr te : Int) : ∀ c ∈ segC l0 fr te, okC c := fun c hc => hl c (List.mem_of_mem_take (List.mem_of_mem_drop hc))
theorem segC_le (l0 : List S53) (fr te : Int) : (segC l0 fr te).length ≤ l0.length := by
  unfold segC
  rw [List.length_drop, List.length_take]
  omega
theorem pz_or (own : List S53) (st : Int) : (∃ e, e ≠ 0 ∧ pz own st = ([], e)) ∨ (∃ ys, pz own st = (st :: ys, 0) ∧ ys.length = own.length) := by
  unfold pz
  rcases pensR_or (rolesZ true own) own st with ⟨e, he, _, hp⟩ | ⟨ys, hp, hw, _, _⟩
  · exact .inl ⟨e, he, hp⟩
  · exact .inr ⟨ys, hp, walk_len hw⟩
theorem pz_len {own : List S53} {st : Int} (h : (pz own st).2 = 0) : (pz own st).1.length = own.length + 1 := by
  rcases pz_or own st with ⟨e, he, hp⟩ | ⟨ys, hp, hw⟩
  · rw [hp] at h; exact absurd h he
  · rw [hp]; simp [hw]
theorem cut_eq {l0 : List S53} (hlen : l0.length ≤ 1000) (hl : ∀ c ∈ l0, okC c) (l1 : List Bool) (fr te : Int) (fo : Bool) (wd : Int) {st : Int} (hst : in64 st) (dots : Int) :
    ellipsis_Cut.f l0 l1 fr te fo wd st dots = some (cutZ l0 l1 fr te wd st dots) := by
  unfold ellipsis_Cut.f cutZ
  by_cases hok : cutOk l0 l1 fr te wd dots
  · rw [if_pos hok, if_pos hok]
    have hsl := segC_le l0 fr te
    have hso := segC_ok hl fr te
    generalize segC l0 fr te = own at hsl hso ⊢
    have hF : trim_Fits.f own st = some (nz own st) := fits_eq (by omega) hso hst
    have hR : trim_Roles.f own = some (rolesZ true own) := roles_ev (by omega)
    have hP : tabs_Pens.f own (rolesZ true own) st = some (pz own st) := pens_eq (by omega) hso hst
    rw [hF, Option.bind_some]
    unfold cutV
    by_cases hn : (nz own st).2 = 0
    · rw [if_pos hn, if_pos hn, hR, Option.bind_some, hP, Option.bind_some]
      by_cases hp : (pz own st).2 = 0
      · rw [if_pos hp, if_pos hp, if_pos (by rw [pz_len hp]; omega)]
      · rw [if_neg hp, if_neg hp]
    · rw [if_neg hn, if_neg hn]
  · rw [if_neg hok, if_neg hok]
/-- Enough rounds are enough. -/
theorem backL_stab (l : List Bool) (fr te : Int) : ∀ (n m : Nat) (p : Int), p - fr < (n : Int) → p - fr < (m : Int) → backL l fr te n p = backL l fr te m p
  | 0, 0, _, _, _ => rfl
  | 0, m + 1, p, h1, _ => by
    unfold backL
    rw [if_neg (by omega)]
  | n + 1, 0, p, _, h2 => by
    unfold backL
    rw [if_neg (by omega)]
  | n + 1, m + 1, p, h1, h2 => by
    unfold backL
    rw [backL_stab l fr te n m (p - 1) (by omega) (by omega)]
/-- The places up to one, from the last one on. -/
def bk (l : List Bool) (fr te p : Int) : List Int := backL l fr te (p - fr + 1).toNat p
theorem bk_eq (l : List Bool) (fr te : Int) (n : Nat) (p : Int) (h : p - fr < (n : Int)) : backL l fr te n p = bk l fr te p := by
  unfold bk
  by_cases h0 : fr ≤ p
  · exact backL_stab l fr te _ _ p h (by omega)
  · have e : (p - fr + 1).toNat = 0 := by omega
    rw [e]
    cases n with
    | zero => rfl
    | succ n => unfold backL; rw [if_neg h0]
theorem bk_nil (l : List Bool) (fr te p : Int) (h : p < fr) : bk l fr te p = [] := by
  unfold bk
  have e : (p - fr + 1).toNat = 0 := by omega
  rw [e]
  rfl
theorem bk_cons (l : List Bool) (fr te p : Int) (h : fr ≤ p) : bk l fr te p = if p = te ∨ rdOf false l p = true then p :: bk l fr te (p - 1) else bk l fr te (p - 1) := by
  have e : bk l fr te p = backL l fr te ((p - fr).toNat + 1) p := (bk_eq l fr te _ p (by omega)).symm
  rw [e]
  unfold backL
  rw [if_pos h, bk_eq l fr te _ (p - 1) (by omega)]
theorem bk_len (l : List Bool) (fr te p : Int) : (bk l fr te p).length ≤ (p - fr + 1).toNat := backL_len l fr te _ p
def placesZ (l1 : List Bool) (fr te : Int) : List Int := (bk l1 fr te te).reverse
theorem ext_rd {a b : List Int} (hl : a.length = b.length) (h : ∀ m : Nat, m < a.length → rd a (m : Int) = rd b (m : Int)) : a = b :=
  List.ext_getElem hl fun m h1 h2 => by rw [← rd_int a h1, ← rd_int b h2, h m h1]
theorem rd_rev (l : List Int) {m : Nat} (h : m < l.length) : rd l.reverse (m : Int) = rd l ((l.length - 1 - m : Nat) : Int) := by
  rw [rd_int l.reverse (by simpa using h), rd_int l (by omega), List.getElem_reverse]
theorem rev_end {l s : List Int} {i : Nat} (hs : s.length = l.length) (hi : l.length ≤ 2 * i + 1) (hf : ∀ m : Nat, m < l.length → rd s (m : Int) = if m < i ∨ l.length - 1 - m < i then rd l ((l.length - 1 - m : Nat) : Int) else rd l (m : Int)) : s = l.reverse := by
  refine ext_rd (by simp [hs]) fun m hm => ?_
  rw [rd_rev l (by omega), hf m (by omega)]
  split
  · rfl
  · have e : l.length - 1 - m = m := by omega
    rw [e]
theorem rev_l0 (l : List Int) (hl : l.length ≤ 1000) : ∀ (r i : Nat) (s : List Int), s.length = l.length → l.length ≤ 2 * i + 1 + 2 * r →
    (∀ m : Nat, m < l.length → rd s (m : Int) = if m < i ∨ l.length - 1 - m < i then rd l ((l.length - 1 - m : Nat) : Int) else rd l (m : Int)) → i ≤ 1000 →
    Ev (fun k => slices_Reverse_int_int.l0 k s (i : Int) ((l.length : Int) - 1 - i)) l.reverse := by
  intro r
  induction r with
  | zero =>
    intro i s hs hr hf hi
    refine Ev.step (f := fun _ => some l.reverse) (fun k => ?_) (Ev.now _)
    simp only [slices_Reverse_int_int.l0]
    rw [if_neg (by omega), rev_end hs (by omega) hf]
  | succ r ih =>
    intro i s hs hr hf hi
    by_cases hlt : (i : Int) < (l.length : Int) - 1 - i
    · obtain ⟨j, hj⟩ : ∃ j : Nat, l.length - 1 - i = j := ⟨_, rfl⟩
      have hj2 : (l.length : Int) - 1 - i = (j : Int) := by omega
      refine Ev.step (f := fun k => slices_Reverse_int_int.l0 k ((s.set i (rd s (j : Int))).set j (rd s (i : Int))) ((i + 1 : Nat) : Int) ((l.length : Int) - 1 - ((i + 1 : Nat) : Int))) (fun k => ?_) (ih (i + 1) _ (by simp [hs]) (by omega) ?_ (by omega))
      · simp only [slices_Reverse_int_int.l0]
        rw [hj2, if_pos (by omega), if_pos (by omega), if_pos (by rw [hs]; omega), if_pos (by omega), if_pos (by rw [hs]; omega), ws (by omega) (by omega), ws (by omega) (by omega)]
        simp only [Int.toNat_natCast]
        congr 1
        omega
      · intro m hm
        rw [rd_set _ _ _ _ (by simp [hs]; omega), rd_set _ _ _ _ (by rw [hs]; omega)]
        have hfi := hf i (by omega)
        have hfj := hf j (by omega)
        rw [if_neg (by omega)] at hfi hfj
        by_cases h1 : j = m
        · subst h1
          rw [if_pos rfl, if_pos (by omega), hfi]
          congr 1
          omega
        · rw [if_neg h1]
          by_cases h2 : i = m
          · subst h2
            rw [if_pos rfl, if_pos (by omega), hfj, hj]
          · rw [if_neg h2, hf m hm]
            by_cases h3 : m < i ∨ l.length - 1 - m < i
            · rw [if_pos h3, if_pos (by omega)]
            · rw [if_neg h3, if_neg (by omega)]
    · refine Ev.step (f := fun _ => some l.reverse) (fun k => ?_) (Ev.now _)
      simp only [slices_Reverse_int_int.l0]
      rw [if_neg hlt, rev_end hs (by omega) hf]
theorem rev_ev (l : List Int) (hl : l.length ≤ 1000) : Ev (fun k => slices_Reverse_int_int.f k l) l.reverse := by
  have h := rev_l0 l hl l.length 0 l rfl (by omega) (fun m hm => by rw [if_neg (by omega)]) (by omega)
  refine Ev.congr (fun k => ?_) h
  unfold slices_Reverse_int_int.f
  rw [ws (by omega) (by omega)]
  simp
theorem places_ev {l0 : List S53} (hlen : l0.length ≤ 900) (l1 : List Bool) (fr te : Int) (fo : Bool) :
    Ev (fun k => ellipsis_Places.f k l0 l1 fr te fo) (if insideB l0 l1 fr te then (placesZ l1 fr te, 0) else ([], 2)) := by
  by_cases hin : insideB l0 l1 fr te
  · rw [if_pos hin]
    have hb : (bk l1 fr te te).length ≤ 1000 := by have := bk_len l1 fr te te; omega
    refine Ev.congr (f := fun k => (slices_Reverse_int_int.f k (bk l1 fr te te)).bind fun r => some (r, 0)) (fun k => ?_) (Ev.bind (rev_ev _ hb) (Ev.now _))
    unfold ellipsis_Places.f
    rw [if_pos hin, if_pos (by omega), bk_eq l1 fr te _ te (by omega)]
  · rw [if_neg hin]
    refine Ev.congr (fun k => ?_) (Ev.now _)
    unfold ellipsis_Places.f
    rw [if_neg hin]
/-! ### The document's answer -/
theorem rplaces_l0 (l1 : List Bool) (fr te : Int) (fo : Bool) (h0 : 0 ≤ fr) (h2 : te ≤ (l1.length : Int)) (hlen : l1.length ≤ 900) : ∀ (r : Nat) (p : Int), fr ≤ p → p ≤ te + 1 → te + 1 - p = (r : Int) →
    Ev (fun k => stickfulref26_Places.l0 k l1 (bk l1 fr te (p - 1)).reverse p fr te fo) (placesZ l1 fr te, 0) := by
  intro r
  induction r with
  | zero =>
    intro p h3 h4 h5
    refine Ev.step (f := fun _ => some (placesZ l1 fr te, 0)) (fun k => ?_) (Ev.now _)
    simp only [stickfulref26_Places.l0]
    rw [if_neg (by omega), show p - 1 = te by omega]
    rfl
  | succ r ih =>
    intro p h3 h4 h5
    have hbl := bk_len l1 fr te (p - 1)
    have hbc := bk_cons l1 fr te p h3
    have hi := ih (p + 1) (by omega) (by omega) (by omega)
    rw [show p + 1 - 1 = p by omega] at hi
    refine Ev.step (fun k => ?_) hi
    simp only [stickfulref26_Places.l0]
    rw [if_pos (by omega), ws (by omega) (by omega), hbc]
    by_cases ht : p = te
    · rw [if_pos ht, if_pos (by rw [List.length_reverse]; omega), if_pos (.inl ht), List.reverse_cons]
    · rw [if_neg ht, if_pos (by omega), if_pos (by omega)]
      by_cases hb : rdOf false l1 p = true
      · rw [if_pos hb, if_pos (by rw [List.length_reverse]; omega), if_pos (.inr hb), List.reverse_cons]
      · rw [if_neg hb, if_neg (fun h => by rcases h with h | h; exact ht h; exact hb h)]
theorem rplaces_ev {l0 : List S53} (hlen : l0.length ≤ 900) (l1 : List Bool) (fr te : Int) (fo : Bool) :
    Ev (fun k => stickfulref26_Places.f k l0 l1 fr te fo) (if insideB l0 l1 fr te then (placesZ l1 fr te, 0) else ([], 2)) := by
  have bad : Ev (fun k => stickfulref26_Places.j0 k l1 true fr te fo) (([] : List Int), (2 : Int)) := by
    refine Ev.step (f := fun _ => some (([] : List Int), (2 : Int))) (fun k => ?_) (Ev.now _)
    simp only [stickfulref26_Places.j0]
    rw [if_pos trivial]
  unfold stickfulref26_Places.f
  by_cases h1 : (l1.length : Int) = (l0.length : Int)
  · by_cases h2 : fr < 0
    · rw [if_neg (fun h => by have := h.2.1; omega)]
      refine Ev.congr (fun k => ?_) bad
      rw [if_pos h1, if_pos h2]
    · by_cases h3 : te < fr
      · rw [if_neg (fun h => by have := h.2.2.1; omega)]
        refine Ev.congr (fun k => ?_) bad
        rw [if_pos h1, if_neg h2, if_pos h3]
      · by_cases h4 : te > (l0.length : Int)
        · rw [if_neg (fun h => by have := h.2.2.2; omega)]
          refine Ev.congr (fun k => ?_) bad
          rw [if_pos h1, if_neg h2, if_neg h3, decide_eq_true h4]
        · rw [if_pos ⟨h1, by omega, by omega, by omega⟩]
          have hl := rplaces_l0 l1 fr te fo (by omega) (by omega) (by omega) (te + 1 - fr).toNat fr (by omega) (by omega) (by omega)
          rw [bk_nil l1 fr te (fr - 1) (by omega)] at hl
          refine Ev.congr (f := fun k => stickfulref26_Places.j0 k l1 false fr te fo) (fun k => ?_) (Ev.step (fun k => ?_) hl)
          · rw [if_pos h1, if_neg h2, if_neg h3, decide_eq_false h4]
          · simp only [stickfulref26_Places.j0]
            rw [if_neg (by decide)]
            rfl
  · rw [if_neg (fun h => h1 h.1)]
    refine Ev.congr (fun k => ?_) bad
    rw [if_neg h1]
theorem bk_in (l : List Bool) (fr te : Int) (p : Int) (hp : p ≤ te) : ∀ q ∈ bk l fr te p, fr ≤ q ∧ q ≤ te := backL_in l fr te _ p hp
theorem cutTo_bk (ps : List Int) (l1 : List Bool) (fr te n wd dots : Int) (h : te ≤ (l1.length : Int)) (h0 : 0 ≤ fr) : cutTo ps l1 fr te n wd dots = if n > wd then firstL (cutB ps fr dots wd) fr (bk l1 fr te te) else te := by
  unfold cutTo
  rw [bk_eq l1 fr te _ te (by omega)]
theorem rcut_l0 (ps : List Int) (l1 : List Bool) (fr te : Int) (fo : Bool) (wd st dots : Int) (h0 : 0 ≤ fr) (h1 : fr ≤ te) (h2 : te ≤ 900) (hps : (ps.length : Int) = te - fr + 1) : ∀ (r i : Nat), i + r = (placesZ l1 fr te).length →
    Ev (fun k => stickfulref26_Cut.l0 k dots (placesZ l1 fr te) ps (firstL (cutB ps fr dots wd) fr ((placesZ l1 fr te).take i).reverse) (i : Int) fr te fo wd st)
      (firstL (cutB ps fr dots wd) fr (bk l1 fr te te), rd ps (firstL (cutB ps fr dots wd) fr (bk l1 fr te te) - fr), true, 0) := by
  have hpl : (placesZ l1 fr te).length ≤ 1000 := by unfold placesZ; rw [List.length_reverse]; have := bk_len l1 fr te te; omega
  have hin : ∀ q ∈ placesZ l1 fr te, fr ≤ q ∧ q ≤ te := fun q hq => bk_in l1 fr te te (Int.le_refl _) q (List.mem_reverse.1 hq)
  have hrev : (placesZ l1 fr te).reverse = bk l1 fr te te := by unfold placesZ; rw [List.reverse_reverse]
  intro r
  induction r with
  | zero =>
    intro i hi
    refine Ev.step (f := fun _ => some _) (fun k => ?_) (Ev.now _)
    simp only [stickfulref26_Cut.l0]
    rw [if_neg (by omega), List.take_of_length_le (by omega), hrev]
    have hb : fr ≤ firstL (cutB ps fr dots wd) fr (bk l1 fr te te) ∧ firstL (cutB ps fr dots wd) fr (bk l1 fr te te) ≤ te := by
      rcases firstL_in (cutB ps fr dots wd) fr (bk l1 fr te te) with h | h
      · rw [h]; omega
      · exact bk_in l1 fr te te (Int.le_refl _) _ h
    rw [ws (by omega) (by omega), if_pos (by omega), if_pos (by omega)]
  | succ r ih =>
    intro i hi
    have hlt : i < (placesZ l1 fr te).length := by omega
    have hq := hin _ (List.getElem_mem hlt)
    have hi2 := ih (i + 1) (by omega)
    rw [List.take_succ_eq_append_getElem hlt, List.reverse_append] at hi2
    refine Ev.step (fun k => ?_) hi2
    simp only [stickfulref26_Cut.l0, List.reverse_cons, List.reverse_nil, List.nil_append, List.cons_append, firstL]
    rw [if_pos (by omega), if_pos (by omega), rd_int _ hlt, ws (by omega) (by omega), if_pos (by omega), if_pos (by omega), w1 (by omega)]
    unfold cutB
    by_cases hc : wrap64 (rd ps ((placesZ l1 fr te)[i] - fr) + dots) ≤ wd
    · rw [if_pos hc, if_pos (decide_eq_true hc)]
    · rw [if_neg hc, if_neg (by simpa using hc)]
theorem rcut_ev {l0 : List S53} (hlen : l0.length ≤ 800) (hl : ∀ c ∈ l0, okC c) (l1 : List Bool) (fr te : Int) (fo : Bool) (wd st dots : Int) :
    Ev (fun k => stickfulref26_Cut.f k l0 l1 fr te fo wd st dots) (cutZ l0 l1 fr te wd st dots) := by
  have bad : ∀ P : List Int, Ev (fun k => stickfulref26_Cut.j0 k l0 dots P true fr te fo wd st) (0, 0, false, 2) := fun P => by
    refine Ev.step (f := fun _ => some (0, 0, false, 2)) (fun k => ?_) (Ev.now _)
    simp only [stickfulref26_Cut.j0]
    rw [if_pos trivial]
  unfold stickfulref26_Cut.f cutZ
  refine Ev.bind (rplaces_ev (by omega) l1 fr te fo) ?_
  by_cases hin : insideB l0 l1 fr te
  · rw [if_pos hin]
    by_cases h1 : wd < 0
    · rw [if_neg (fun h => by have := h.2.1; omega)]
      refine Ev.congr (fun k => ?_) (bad (placesZ l1 fr te))
      rw [if_pos rfl, if_pos h1]
    · by_cases h2 : dots < 0
      · rw [if_neg (fun h => by have := h.2.2.1; omega)]
        refine Ev.congr (fun k => ?_) (bad (placesZ l1 fr te))
        rw [if_pos rfl, if_neg h1, if_pos h2]
      · by_cases h3 : dots > 1073741824
        · rw [if_neg (fun h => by have := h.2.2.2; omega)]
          refine Ev.congr (fun k => ?_) (bad (placesZ l1 fr te))
          rw [if_pos rfl, if_neg h1, if_neg h2, decide_eq_true h3]
        · rw [if_pos ⟨hin, by omega, by omega, by omega⟩]
          refine Ev.congr (f := fun k => stickfulref26_Cut.j0 k l0 dots (placesZ l1 fr te) false fr te fo wd st) (fun k => ?_) ?_
          · rw [if_pos rfl, if_neg h1, if_neg h2, decide_eq_false h3]
          · have hsl := segC_le l0 fr te
            have hso := segC_ok hl fr te
            have hsn := segC_len hin.2.1 hin.2.2.1 hin.2.2.2
            refine Ev.step (f := fun k => (stickfulref13_Fits.f k (segC l0 fr te) st).bind fun bt282 => (if bt282.2 = 0 then ((stickfulref13_Roles.f k (segC l0 fr te)).bind fun t284 => ((stickfulref12_Pens.f k (segC l0 fr te) t284 st).bind fun bt287 => (if bt287.2 = 0 then (if bt282.1 ≤ wd then (if 0 ≤ ((segC l0 fr te).length : Int) then (if ((segC l0 fr te).length : Int) < (bt287.1.length : Int) then (some (te, rd bt287.1 ((segC l0 fr te).length : Int), false, 0)) else (none)) else (none)) else (stickfulref26_Cut.l0 k dots (placesZ l1 fr te) bt287.1 fr 0 fr te fo wd st)) else (some (0, 0, false, bt287.2))))) else (some (0, 0, false, bt282.2)))) (fun k => ?_) ?_
            · simp only [stickfulref26_Cut.j0]
              rw [if_neg (by decide), if_pos hin.2.1, if_pos hin.2.2.1, if_pos hin.2.2.2, Option.bind_some]
              rfl
            · generalize segC l0 fr te = own at hsl hso hsn ⊢
              refine Ev.bind (a := nz own st) (rfits_ev (by omega) hso) ?_
              unfold cutV
              by_cases hn : (nz own st).2 = 0
              · rw [if_pos hn]
                refine Ev.congr (fun k => if_pos hn) ?_
                refine Ev.bind (rroles_ev own (by omega)) ?_
                refine Ev.bind (a := pz own st) (rpens_l0 own (rolesZ true own) st (by omega) hso own.length 0 (by omega) rfl) ?_
                by_cases hp : (pz own st).2 = 0
                · rw [if_pos hp]
                  refine Ev.congr (fun k => if_pos hp) ?_
                  have hpl := pz_len hp
                  rw [cutTo_bk _ _ _ _ _ _ _ (by have := hin.1; omega) hin.2.1]
                  by_cases hw : (nz own st).1 ≤ wd
                  · rw [if_neg (show ¬ (nz own st).1 > wd by omega), decide_eq_false (show ¬ (nz own st).1 > wd by omega)]
                    refine Ev.congr (fun k => ?_) (Ev.now _)
                    rw [if_pos hw, if_pos (by omega), if_pos (by rw [hpl]; omega), hsn]
                  · rw [if_pos (show (nz own st).1 > wd by omega), decide_eq_true (show (nz own st).1 > wd by omega)]
                    refine Ev.congr (fun k => if_neg hw) ?_
                    have := rcut_l0 (pz own st).1 l1 fr te fo wd st dots hin.2.1 hin.2.2.1 (by have := hin.2.2.2; omega) (by rw [hpl]; omega) (placesZ l1 fr te).length 0 (by omega)
                    simpa [firstL] using this
                · rw [if_neg hp]
                  exact Ev.congr (fun k => if_neg hp) (Ev.now _)
              · rw [if_neg hn]
                exact Ev.congr (fun k => if_neg hn) (Ev.now _)
  · rw [if_neg hin, if_neg (fun h => hin h.1)]
    refine Ev.congr (fun k => ?_) (bad [])
    rw [if_neg (by decide)]
theorem sames_l0 (l : List Int) (hlen : l.length ≤ 1000) : ∀ (r i : Nat), i + r = l.length → Ev (fun k => stickfulref26_SameInts.l0 k l l (i : Int)) true := by
  intro r
  induction r with
  | zero =>
    intro i hi
    refine Ev.step (f := fun _ => some true) (fun k => ?_) (Ev.now _)
    simp only [stickfulref26_SameInts.l0]
    rw [if_neg (by omega)]
  | succ r ih =>
    intro i hi
    refine Ev.step (fun k => ?_) (ih (i + 1) (by omega))
    simp only [stickfulref26_SameInts.l0]
    rw [if_pos (by omega), if_pos (by omega), if_pos (by omega), if_pos trivial, w1 (by omega)]
theorem sames_ev (l : List Int) (hlen : l.length ≤ 1000) : Ev (fun k => stickfulref26_SameInts.f k l l) true := by
  unfold stickfulref26_SameInts.f
  refine Ev.congr (fun k => if_pos rfl) (sames_l0 l hlen l.length 0 (by omega))
end Go.Proofs.Ytkaiibipcnlaiaa.PureF
namespace Go.Proofs.Ytkaiibipcnlaiaa.HEll
open Go.RowKit Go.Proofs.YtkaiibipcnlaiaaW.PrintWords Go.Proofs.YtkaiibipcnlaiaaW.PrintLast Go.Proofs.YtkaiibipcnlaiaaW.PrintMore Go.Proofs.Ytkaiibipcnlaiaa.Hand
/-- What the law stickfullaw26_EllipsisTells asks of the plain functions. -/
def stickfullaw26_EllipsisTells.Pure : Prop := ∀ (x0 : S27) (x1 : S29), W27 x0 → W29 x1 → ∃ k, stickfullaw26_EllipsisTells.f k x0.f0 x0.f1 x0.f2.f0 x0.f2.f1 x0.f2.f2 x0.f3 x1.f0 x1.f1 = some true
end Go.Proofs.Ytkaiibipcnlaiaa.HEll
namespace Go.Proofs.Ytkaiibipcnlaiaa.PureF
set_option linter.unusedVariables false
set_option linter.unusedSimpArgs false
open Go.RowKit Go.Proofs.YtkaiibipcnlaiaaW.PrintWords Go.Proofs.YtkaiibipcnlaiaaW.PrintLast Go.Proofs.YtkaiibipcnlaiaaW.PrintMore Go.Proofs.Ytkaiibipcnlaiaa.Hand Go.Proofs.Ytkaiibipcnlaiaa.HEll
theorem great_eqT (l0 : List S53) (l1 : List Bool) (a b : Int) (c : Bool) (d : Int) : stickfullaw26_great.f l0 l1 a b c d = some (decide ((l0.length : Int) > 100) || decide ((l1.length : Int) > 150)) := by
  unfold stickfullaw26_great.f
  by_cases h : (l0.length : Int) > 100
  · rw [if_pos h, decide_eq_true h]; rfl
  · rw [if_neg h, decide_eq_false h, Bool.false_or]
theorem tells_ev (x0 : S27) (x1 : S29) (h0 : W27 x0) (h1 : W29 x1) : Ev (fun k => stickfullaw26_EllipsisTells.f k x0.f0 x0.f1 x0.f2.f0 x0.f2.f1 x0.f2.f2 x0.f3 x1.f0 x1.f1) true := by
  have hl : ∀ c ∈ x0.f0, okC c := fun c hc => okC_of (h0.1.2.2 c hc)
  have hst : in64 x1.f1 := i64_of h1.2
  unfold stickfullaw26_EllipsisTells.f
  refine Ev.congr (fun k => by rw [great_eqT, Option.bind_some]) ?_
  cases hg : decide ((x0.f0.length : Int) > 100) || decide ((x0.f1.length : Int) > 150) with
  | true => exact Ev.congr (fun k => if_pos rfl) head_ev2
  | false =>
    have hlen : x0.f0.length ≤ 100 := by simp at hg; omega
    refine Ev.congr (fun k => if_neg (by decide)) ?_
    refine Ev.congr (fun k => by rw [cut_eq (by omega) hl _ _ _ _ _ hst, Option.bind_some]) ?_
    refine Ev.bind (rcut_ev (by omega) hl _ _ _ _ _ _ _) ?_
    refine Ev.bind (places_ev (by omega) _ _ _ _) ?_
    refine Ev.bind (rplaces_ev (by omega) _ _ _ _) ?_
    refine Ev.congr (fun k => by rw [if_pos rfl, if_pos rfl, if_pos (by simp), if_pos rfl]) ?_
    refine Ev.bind (a := true) (sames_ev _ ?_) ?_
    · split
      · rename_i hin
        unfold placesZ
        rw [List.length_reverse]
        have := bk_len x0.f1 x0.f2.f0 x0.f2.f1 x0.f2.f1
        have := hin.2.2.2
        have := hin.2.1
        skip
        omega
      · simp
    · exact Ev.congr (fun k => by rw [if_pos rfl, if_pos rfl]) head_ev2
end Go.Proofs.Ytkaiibipcnlaiaa.PureF
namespace Go.Proofs.Ytkaiibipcnlaiaa.Pure
open Go.RowKit Go.Proofs.YtkaiibipcnlaiaaW.PrintWords Go.Proofs.YtkaiibipcnlaiaaW.PrintLast Go.Proofs.YtkaiibipcnlaiaaW.PrintMore Go.Proofs.Ytkaiibipcnlaiaa.Hand Go.Proofs.Ytkaiibipcnlaiaa.HEll
theorem EllipsisTells : stickfullaw26_EllipsisTells.Pure := fun x0 x1 h0 h1 => (PureF.tells_ev x0 x1 h0 h1).rounds
end Go.Proofs.Ytkaiibipcnlaiaa.Pure
