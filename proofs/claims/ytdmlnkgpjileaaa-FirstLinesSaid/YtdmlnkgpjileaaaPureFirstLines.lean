/- Plain laws of chapter 15: pens and roles, what fits, and the document's own answers. No condition of its own. -/
import Derived.Test.YtdmlnkgpjileaaaM3
import Derived.Test.YtdmlnkgpjileaaaHFirstx4
import Derived.Test.YtdmlnkgpjileaaaHFirstx5
import Derived.Test.YtdmlnkgpjileaaaHFirstx6
import Derived.Test.YtdmlnkgpjileaaaHFirstx7
import Derived.Test.YtdmlnkgpjileaaaHFirstx8
import Derived.Test.YtdmlnkgpjileaaaHFirstx10
import Derived.Test.YtdmlnkgpjileaaaHFirstx11
import Derived.Test.YtdmlnkgpjileaaaHFirstx12
import Derived.Test.YtdmlnkgpjileaaaHFirstx13
import Derived.Test.YtdmlnkgpjileaaaHFirstx14
import Derived.Test.YtdmlnkgpjileaaaHFirstx16
import Derived.Test.YtdmlnkgpjileaaaHFirstx18
import Derived.Test.YtdmlnkgpjileaaaHFirstx21
import Derived.Test.YtdmlnkgpjileaaaHFirstx22
import Derived.Test.YtdmlnkgpjileaaaHFirstx23
import Derived.Test.YtdmlnkgpjileaaaHFirstx24
import Derived.Test.YtdmlnkgpjileaaaHFirstx25
import Derived.Test.YtdmlnkgpjileaaaHFirstx26
import Derived.Test.YtdmlnkgpjileaaaHFirstx27
import Derived.Test.YtdmlnkgpjileaaaHFirstx28
import Derived.Test.YtdmlnkgpjileaaaHFirstx29
import Derived.Test.YtdmlnkgpjileaaaSayFirst
import Derived.Test.YtdmlnkgpjileaaaHFirstx30
namespace Go.Proofs.Ytdmlnkgpjileaaa.PureF
open Go.RowKit Go.Proofs.YtdmlnkgpjileaaaW.PrintWords Go.Proofs.YtdmlnkgpjileaaaW.PrintLast Go.Proofs.YtdmlnkgpjileaaaW.PrintMore Go.Proofs.Ytdmlnkgpjileaaa.Hand Go.Proofs.Ytdmlnkgpjileaaa.HFirst
def fits (x : Int) : Prop := -4611686018427387904 ≤ x ∧ x ≤ 4611686018427387904
instance (x : Int) : Decidable (fits x) := by unfold fits; exact inferInstance
def fitO (s : Int) : Option Int := if fits s then some s else none
/-- The pen behind a cell that may be. -/
def nxt (c : S46) (x : Int) : Option Int := if c.f0 = 4 then (if c.f3 = 0 then some x else fitO (x - x % c.f3 + c.f3)) else fitO (x + c.f3)
def nxtR (r : Int) (c : S46) (x : Int) : Option Int := if r = 1 then some x else nxt c x
/-- The pens behind cells. -/
def walk (rs : List Int) : List S46 → Nat → Int → Option (List Int)
  | [], _, _ => some []
  | c :: l, i, x => (nxtR (roleAt rs i) c x).bind fun y => (walk rs l (i + 1) y).map (y :: ·)
def pensR (rs : List Int) (l : List S46) (x : Int) : List Int × Int :=
  if l.any badTab then ([], 2) else if fits x then (match walk rs l 0 x with | some ys => (x :: ys, 0) | none => ([], 10)) else ([], 10)
def okC (c : S46) : Prop := in64 c.f3

theorem ws {x : Int} (h1 : -9223372036854775808 ≤ x) (h2 : x ≤ 9223372036854775807) : wrap64 x = x := by
  unfold wrap64
  omega
theorem sum_ok {l : List Int} (h : ∀ x ∈ l, in64 x) (hl : l.length ≤ 1000) : unit_Sum.f l = some (if fits l.sum then (l.sum, 0) else (0, 10)) := by
  unfold unit_Sum.f
  rw [if_pos ⟨h, by omega⟩]
  by_cases hf : fits l.sum
  · rw [if_pos hf]; exact if_pos hf
  · rw [if_neg hf]; exact if_neg hf
theorem in_of_fits {x : Int} (h : fits x) : in64 x := by unfold fits at h; unfold in64; omega
theorem tmod_cases {x d : Int} (hd : 0 < d) : (x.tmod d < 0 ∧ x % d = x.tmod d + d) ∨ (¬ x.tmod d < 0 ∧ x % d = x.tmod d) := by
  have h1 : 0 ≤ x % d := Int.emod_nonneg x (by omega)
  have h2 : x % d < d := Int.emod_lt_of_pos x hd
  rcases Int.le_total 0 x with hx | hx
  · right
    rw [Int.tmod_eq_emod_of_nonneg hx]
    exact ⟨by omega, rfl⟩
  · have e : x.tmod d = -((-x).tmod d) := by rw [Int.neg_tmod]; omega
    rw [Int.tmod_eq_emod_of_nonneg (show 0 ≤ -x by omega)] at e
    have h3 : 0 ≤ (-x) % d := Int.emod_nonneg (-x) (by omega)
    have h4 : (-x) % d < d := Int.emod_lt_of_pos (-x) hd
    have h5 : ((-x) % d + x % d) % d = 0 := by rw [← Int.add_emod]; simp [Int.add_left_neg]
    by_cases hz : (-x) % d = 0
    · right
      rw [hz] at h5 e
      rw [Int.zero_add, Int.emod_emod_of_dvd x (Int.dvd_refl d)] at h5
      omega
    · left
      have h6 : (-x) % d + x % d = d := by
        by_cases hc : (-x) % d + x % d < d
        · rw [Int.emod_eq_of_lt (by omega) hc] at h5
          omega
        · have : ((-x) % d + x % d - d) % d = 0 := by rw [Int.sub_emod_right]; exact h5
          rw [Int.emod_eq_of_lt (by omega) (by omega)] at this
          omega
      omega
theorem step_eq {c : S46} (hc : okC c) (hb : badTab c = false) {x : Int} (hx : fits x) : stepC c x = some (match nxt c x with | some y => (y, 0) | none => (0, 10)) := by
  have hx1 := in_of_fits hx
  have s1 : unit_Sum.f [x] = some (x, 0) := by
    rw [sum_ok (by simpa using hx1) (by simp)]
    simp only [List.sum_cons, List.sum_nil, Int.add_zero]
    rw [if_pos hx]
  unfold stepC tabs_Step.f nxt
  rw [s1]
  simp only [Option.bind_some]
  by_cases h4 : c.f0 = 4
  · rw [if_pos h4, if_pos h4]
    have h3 : ¬ c.f3 < 0 := by
      intro h
      unfold badTab at hb
      rw [h4, decide_eq_true h] at hb
      cases hb
    rw [decide_eq_false h3]
    simp only [tabs_Step.j0]
    rw [if_neg (by decide), if_pos h4, if_pos trivial]
    by_cases h0 : c.f3 = 0
    · rw [if_pos h0, if_pos h0]
    · rw [if_neg h0, if_neg h0]
      have hd : 0 < c.f3 := by omega
      have hi : c.f3 ≤ 9223372036854775807 := hc.2
      have hm1 : 0 ≤ x % c.f3 := Int.emod_nonneg x (by omega)
      have hm2 : x % c.f3 < c.f3 := Int.emod_lt_of_pos x hd
      have key : unit_Stop.f x c.f3 = some (if fits (x - x % c.f3 + c.f3) then (x - x % c.f3 + c.f3, 0) else (0, 10)) := by
        unfold unit_Stop.f
        rw [if_neg (by omega), if_neg h0]
        rcases tmod_cases (x := x) hd with ⟨ht, he⟩ | ⟨ht, he⟩
        · rw [if_pos ht, show wrap64 (x.tmod c.f3 + c.f3) = x % c.f3 by rw [he]; exact ws (by omega) (by omega), ws (x := -(x % c.f3)) (by omega) (by omega), sum_ok (by
            intro y hy
            simp at hy
            rcases hy with rfl | rfl | rfl
            · exact hx1
            · unfold in64; omega
            · exact hc) (by simp)]
          have es : [x, -(x % c.f3), c.f3].sum = x - x % c.f3 + c.f3 := by simp; omega
          rw [es]
          simp only [Option.bind_some]
        · rw [if_neg ht, ← he, ws (x := -(x % c.f3)) (by omega) (by omega), sum_ok (by
            intro y hy
            simp at hy
            rcases hy with rfl | rfl | rfl
            · exact hx1
            · unfold in64; omega
            · exact hc) (by simp)]
          have es : [x, -(x % c.f3), c.f3].sum = x - x % c.f3 + c.f3 := by simp; omega
          rw [es]
          simp only [Option.bind_some]
      rw [key]
      unfold fitO
      by_cases hf : fits (x - x % c.f3 + c.f3)
      · rw [if_pos hf, if_pos hf]; rfl
      · rw [if_neg hf, if_neg hf]; rfl
  · rw [if_neg h4, if_neg h4]
    simp only [tabs_Step.j0]
    rw [if_neg (by decide), if_neg h4, sum_ok (by
      intro y hy
      simp at hy
      rcases hy with rfl | rfl
      · exact hx1
      · exact hc) (by simp)]
    have es : [x, c.f3].sum = x + c.f3 := by simp
    rw [es]
    unfold fitO
    by_cases hf : fits (x + c.f3)
    · rw [if_pos hf, if_pos hf]; rfl
    · rw [if_neg hf, if_neg hf]; rfl
theorem nxt_fits {c : S46} {x y : Int} (hx : fits x) (h : nxt c x = some y) : fits y := by
  unfold nxt fitO at h
  split at h
  · split at h
    · cases h; exact hx
    · split at h
      · cases h; assumption
      · cases h
  · split at h
    · cases h; assumption
    · cases h
theorem nxtR_fits {r : Int} {c : S46} {x y : Int} (hx : fits x) (h : nxtR r c x = some y) : fits y := by
  unfold nxtR at h
  split at h
  · cases h; exact hx
  · exact nxt_fits hx h
theorem pen_eq {c : S46} (hc : okC c) (hb : badTab c = false) {r x : Int} (hx : fits x) : penOf c r x = some (match nxtR r c x with | some y => (y, 0) | none => (0, 10)) := by
  unfold penOf nxtR
  by_cases h : r = 1
  · rw [if_pos h, if_pos h]
  · rw [if_neg h, if_neg h]; exact step_eq hc hb hx
theorem lastE_cons {p : Int × Int} {ps : List (Int × Int)} (h : lastE ps = 10) : lastE (p :: ps) = 10 := by
  cases ps with
  | nil => cases h
  | cons q qs => exact h
theorem pensL_eq (rs : List Int) : ∀ (l : List S46) (i : Nat) (x : Int), (∀ c ∈ l, okC c ∧ badTab c = false) → fits x →
    ∃ ps, pensL rs l i x = some ps ∧ (match walk rs l i x with | some ys => ps = ys.map (fun y => (y, 0)) | none => lastE ps = 10)
  | [], i, x, _, _ => ⟨[], rfl, rfl⟩
  | c :: l, i, x, hl, hx => by
    obtain ⟨hc, hb⟩ := hl c (List.mem_cons_self ..)
    have hl2 : ∀ c ∈ l, okC c ∧ badTab c = false := fun d hd => hl d (List.mem_cons_of_mem _ hd)
    simp only [pensL, walk]
    rw [pen_eq hc hb hx]
    cases hn : nxtR (roleAt rs i) c x with
    | none => exact ⟨[(0, 10)], by simp, by simp [lastE]⟩
    | some y =>
      obtain ⟨ps, h1, h2⟩ := pensL_eq rs l (i + 1) y hl2 (nxtR_fits hx hn)
      refine ⟨(y, 0) :: ps, by simp [h1], ?_⟩
      simp only [Option.bind_some]
      cases hw : walk rs l (i + 1) y with
      | none => rw [hw] at h2; exact lastE_cons h2
      | some ys => rw [hw] at h2; simp only [Option.map_some]; rw [h2]; rfl
theorem pens_eq {l : List S46} {rs : List Int} {x : Int} (hlen : l.length ≤ 1000000000000) (hl : ∀ c ∈ l, okC c) (hx : in64 x) : tabs_Pens.f l rs x = some (pensR rs l x) := by
  unfold tabs_Pens.f pensR
  rw [if_pos hlen]
  by_cases hb : l.any badTab = true
  · rw [if_pos hb, if_pos hb]
  · rw [if_neg hb, if_neg hb]
    have s1 : unit_Sum.f [x] = some (if fits x then (x, 0) else (0, 10)) := by
      rw [sum_ok (by simpa using hx) (by simp)]
      simp
    rw [s1]
    by_cases hf : fits x
    · rw [if_pos hf, if_pos hf]
      simp only [Option.bind_some, if_true]
      have hl2 : ∀ c ∈ l, okC c ∧ badTab c = false := fun c hc => ⟨hl c hc, by
        cases h : badTab c with
        | false => rfl
        | true => exact absurd (List.any_eq_true.2 ⟨c, hc, h⟩) hb⟩
      obtain ⟨ps, h1, h2⟩ := pensL_eq rs l 0 x hl2 hf
      rw [h1]
      simp only [Option.bind_some]
      cases hw : walk rs l 0 x with
      | none => rw [hw] at h2; simp only at h2; rw [h2]; rfl
      | some ys =>
        rw [hw] at h2
        simp only at h2
        have hz : lastE ps = 0 := lastE_zero (fun q hq => by rw [h2] at hq; obtain ⟨y, _, rfl⟩ := List.mem_map.1 hq; rfl)
        rw [if_pos hz, h2, List.map_map]
        congr 2
        exact congrArg _ (List.map_id'' (fun _ => rfl) ys)
    · rw [if_neg hf, if_neg hf]
      simp
end Go.Proofs.Ytdmlnkgpjileaaa.PureF

namespace Go.Proofs.Ytdmlnkgpjileaaa.PureF
open Go.RowKit Go.Proofs.YtdmlnkgpjileaaaW.PrintWords Go.Proofs.YtdmlnkgpjileaaaW.PrintLast Go.Proofs.YtdmlnkgpjileaaaW.PrintMore Go.Proofs.Ytdmlnkgpjileaaa.Hand Go.Proofs.Ytdmlnkgpjileaaa.HFirst
theorem i64_of {n : Int} (h : (Lit.int .i64 n).wf = true) : in64 n := by
  have h2 : IntKind.i64.min ≤ n ∧ n ≤ IntKind.i64.max := by simpa [Lit.wf] using h
  have e1 : IntKind.i64.min = -9223372036854775808 := rfl
  have e2 : IntKind.i64.max = 9223372036854775807 := rfl
  unfold in64
  omega
theorem okC_of {c : S46} (h : W46 c) : okC c := i64_of h.2.2.2.1
theorem head_ev : Ev (fun k => stickfullaw15_head.f k) true := Ev.of (fun k => stickfullaw15_head.mono k) (k := 100) (by kernel_rfl)
theorem head_ev2 : Ev (fun k => (stickfullaw15_head.f k).bind fun t => some t) true := Ev.bind head_ev (Ev.now true)
theorem w1 {n : Nat} (h : n ≤ 1000000000) : wrap64 ((n : Int) + 1) = ((n + 1 : Nat) : Int) := by rw [ws (by omega) (by omega)]; rfl
def lastD : Int → List Int → Int
  | x, [] => x
  | _, y :: ys => lastD y ys
theorem rd_last : ∀ (x : Int) (ys : List Int), rd (x :: ys) ((ys.length : Nat) : Int) = lastD x ys
  | x, [] => rfl
  | x, y :: ys => by
    rw [lastD, ← rd_last y ys]
    unfold rd
    simp [List.getD]
/-- What Pens tells: an error and no pens, or all pens. -/
theorem pensR_or (rs : List Int) (l : List S46) (x : Int) :
    (∃ e, e ≠ 0 ∧ (e = 2 ∨ e = 10) ∧ pensR rs l x = ([], e)) ∨ (∃ ys, pensR rs l x = (x :: ys, 0) ∧ walk rs l 0 x = some ys ∧ fits x ∧ l.any badTab = false) := by
  unfold pensR
  by_cases hb : l.any badTab = true
  · rw [if_pos hb]; exact .inl ⟨2, by decide, .inl rfl, rfl⟩
  · rw [if_neg hb]
    by_cases hf : fits x
    · rw [if_pos hf]
      cases walk rs l 0 x with
      | none => exact .inl ⟨10, by decide, .inr rfl, rfl⟩
      | some ys => exact .inr ⟨ys, rfl, rfl, hf, by simpa using hb⟩
    · rw [if_neg hf]; exact .inl ⟨10, by decide, .inr rfl, rfl⟩
end Go.Proofs.Ytdmlnkgpjileaaa.PureF

namespace Go.Proofs.Ytdmlnkgpjileaaa.PureF
set_option linter.unusedVariables false
set_option linter.unusedSimpArgs false
open Go.RowKit Go.Proofs.YtdmlnkgpjileaaaW.PrintWords Go.Proofs.YtdmlnkgpjileaaaW.PrintLast Go.Proofs.YtdmlnkgpjileaaaW.PrintMore Go.Proofs.Ytdmlnkgpjileaaa.Hand Go.Proofs.Ytdmlnkgpjileaaa.HFirst
/-- The role of a cell behind cells that are blank or not, ahead of others. -/
def roleZ (a : Bool) (c : S46) (s : List S46) : Int :=
  if c.f0 = 1 ∧ (a = true ∨ s.all blankB = true) then 1 else if c.f0 = 2 ∧ s.all hangB = true then 2 else 0
def rolesZ : Bool → List S46 → List Int
  | _, [] => []
  | a, c :: s => roleZ a c s :: rolesZ (a && blankB c) s
theorem rolesZ_len : ∀ (a : Bool) (l : List S46), (rolesZ a l).length = l.length
  | _, [] => rfl
  | a, c :: s => by simp [rolesZ, rolesZ_len (a && blankB c) s]
theorem rd_nat (l : List S46) {i : Nat} (hi : i < l.length) : rd_T46 l (i : Int) = l[i] := by
  unfold rd_T46
  simp [List.getD, hi]
theorem rolesZ_get : ∀ (a : Bool) (l : List S46) (i : Nat) (hi : i < l.length), rd (rolesZ a l) (i : Int) = roleZ (a && (l.take i).all blankB) l[i] (l.drop (i + 1))
  | _, [], i, hi => by simp at hi
  | a, c :: s, 0, hi => by simp [rolesZ, rd]
  | a, c :: s, i + 1, hi => by
    have h := rolesZ_get (a && blankB c) s i (by simpa using hi)
    simp only [rolesZ]
    have e : rd (roleZ a c s :: rolesZ (a && blankB c) s) ((i + 1 : Nat) : Int) = rd (rolesZ (a && blankB c) s) (i : Int) := by
      unfold rd
      simp [List.getD]
    rw [e, h]
    simp [List.take_succ_cons, Bool.and_assoc]
/-- The ways from the front, and from the back. -/
theorem way_up (l : List S46) (p : S46 → Bool) : ∀ (n : Nat) (i : Int), 0 ≤ i → (l.length : Int) - i < n → ∀ j : Int, j ∈ wayL l p 1 n i ↔ i ≤ j ∧ j < (l.length : Int) ∧ ∀ m : Int, i ≤ m → m ≤ j → p (rd_T46 l m) = true
  | 0, i, h0, hn, j => by
    simp only [wayL, List.not_mem_nil, false_iff]
    rintro ⟨h1, h2, h3⟩
    omega
  | n + 1, i, h0, hn, j => by
    have ih := way_up l p n (i + 1) (by omega) (by omega) j
    simp only [wayL]
    by_cases hc : 0 ≤ i ∧ i < (l.length : Int) ∧ p (rd_T46 l i) = true
    · rw [if_pos hc, List.mem_cons, ih]
      constructor
      · rintro (rfl | ⟨h1, h2, h3⟩)
        · exact ⟨by omega, hc.2.1, fun m h4 h5 => by rw [show m = j by omega]; exact hc.2.2⟩
        · exact ⟨by omega, h2, fun m h4 h5 => by
            by_cases hm : m = i
            · rw [hm]; exact hc.2.2
            · exact h3 m (by omega) h5⟩
      · rintro ⟨h1, h2, h3⟩
        by_cases hj : j = i
        · exact .inl hj
        · exact .inr ⟨by omega, h2, fun m h4 h5 => h3 m (by omega) h5⟩
    · rw [if_neg hc]
      simp only [List.not_mem_nil, false_iff]
      rintro ⟨h1, h2, h3⟩
      exact hc ⟨h0, by omega, h3 i (by omega) (by omega)⟩
theorem way_down (l : List S46) (p : S46 → Bool) : ∀ (n : Nat) (i : Int), i < (l.length : Int) → -1 ≤ i → i + 1 < n → ∀ j : Int, j ∈ wayL l p (-1) n i ↔ 0 ≤ j ∧ j ≤ i ∧ ∀ m : Int, j ≤ m → m ≤ i → p (rd_T46 l m) = true
  | 0, i, h0, h1, hn, j => by omega
  | n + 1, i, h0, h1, hn, j => by
    simp only [wayL]
    by_cases hc : 0 ≤ i ∧ i < (l.length : Int) ∧ p (rd_T46 l i) = true
    · have ih := way_down l p n (i + -1) (by omega) (by omega) (by omega) j
      rw [if_pos hc, List.mem_cons, ih]
      constructor
      · rintro (rfl | ⟨h1, h2, h3⟩)
        · exact ⟨hc.1, by omega, fun m h4 h5 => by rw [show m = j by omega]; exact hc.2.2⟩
        · exact ⟨h1, by omega, fun m h4 h5 => by
            by_cases hm : m = i
            · rw [hm]; exact hc.2.2
            · exact h3 m h4 (by omega)⟩
      · rintro ⟨h1, h2, h3⟩
        by_cases hj : j = i
        · exact .inl hj
        · exact .inr ⟨h1, by omega, fun m h4 h5 => h3 m h4 (by omega)⟩
    · rw [if_neg hc]
      simp only [List.not_mem_nil, false_iff]
      rintro ⟨h1, h2, h3⟩
      exact hc ⟨by omega, h0, h3 i (by omega) (by omega)⟩
theorem markL_len (l : List S46) (kind role : Int) : ∀ (is out : List Int), (markL l kind role is out).length = out.length
  | [], out => rfl
  | i :: is, out => by
    have := markL_len l kind role is (if (rd_T46 l i).f0 = kind then out.set i.toNat role else out)
    unfold markL at this ⊢
    rw [List.foldl_cons, this]
    split <;> simp
theorem rd_set (out : List Int) (i j : Nat) (v : Int) (hj : j < out.length) : rd (out.set i v) (j : Int) = if i = j then v else rd out (j : Int) := by
  unfold rd
  simp only [Int.toNat_natCast, List.getD_eq_getElem?_getD, List.getElem?_set]
  by_cases h : i = j
  · subst h; simp [hj]
  · simp [h]
theorem markL_get (l : List S46) (kind role : Int) (j : Nat) : ∀ (is out : List Int), (∀ i ∈ is, 0 ≤ i) → j < out.length → rd (markL l kind role is out) (j : Int) = if (j : Int) ∈ is ∧ (rd_T46 l (j : Int)).f0 = kind then role else rd out (j : Int)
  | [], out, _, hj => by simp [markL]
  | i :: is, out, hi, hj => by
    have hi0 : 0 ≤ i := hi i (List.mem_cons_self ..)
    have ih := markL_get l kind role j is (if (rd_T46 l i).f0 = kind then out.set i.toNat role else out) (fun x hx => hi x (List.mem_cons_of_mem _ hx)) (by split <;> simpa using hj)
    have e : markL l kind role (i :: is) out = markL l kind role is (if (rd_T46 l i).f0 = kind then out.set i.toNat role else out) := rfl
    rw [e, ih]
    by_cases hm : (j : Int) ∈ is
    · simp only [hm, List.mem_cons, or_true, true_and]
      by_cases hk : (rd_T46 l (j : Int)).f0 = kind
      · rw [if_pos hk, if_pos hk]
      · rw [if_neg hk, if_neg hk]
        by_cases h2 : (rd_T46 l i).f0 = kind
        · rw [if_pos h2, rd_set _ _ _ _ hj, if_neg (fun h => hk (by rw [show (j : Int) = i by omega]; exact h2))]
        · rw [if_neg h2]
    · rw [if_neg (fun h => hm h.1)]
      by_cases hij : (j : Int) = i
      · subst hij
        by_cases hk : (rd_T46 l (j : Int)).f0 = kind
        · rw [if_pos hk, if_pos ⟨List.mem_cons_self .., hk⟩, Int.toNat_natCast, rd_set _ _ _ _ hj, if_pos rfl]
        · rw [if_neg hk, if_neg (fun h => hk h.2)]
      · have hnot : ¬ ((j : Int) ∈ i :: is ∧ (rd_T46 l (j : Int)).f0 = kind) := fun h => by
          rcases List.mem_cons.1 h.1 with h3 | h3
          · exact hij h3
          · exact hm h3
        rw [if_neg hnot]
        by_cases h2 : (rd_T46 l i).f0 = kind
        · rw [if_pos h2, rd_set _ _ _ _ hj, if_neg (by omega)]
        · rw [if_neg h2]
theorem all_take (l : List S46) (p : S46 → Bool) (j : Nat) (hj : j < l.length) : (∀ m : Int, 0 ≤ m → m ≤ (j : Int) → p (rd_T46 l m) = true) ↔ (l.take j).all p = true ∧ p l[j] = true := by
  rw [List.all_eq_true]
  constructor
  · intro h
    refine ⟨fun x hx => ?_, by have := h j (by omega) (by omega); rw [rd_nat l hj] at this; exact this⟩
    obtain ⟨i, hi, rfl⟩ := List.getElem_of_mem hx
    rw [List.length_take] at hi
    have := h (i : Int) (by omega) (by omega)
    rw [rd_nat l (by omega)] at this
    rw [List.getElem_take]
    exact this
  · rintro ⟨h1, h2⟩ m hm0 hm1
    obtain ⟨i, rfl⟩ := Int.eq_ofNat_of_zero_le hm0
    rw [rd_nat l (by omega)]
    by_cases hij : i = j
    · subst hij; exact h2
    · exact h1 _ (List.mem_take_iff_getElem.2 ⟨i, by omega, rfl⟩)
theorem all_drop (l : List S46) (p : S46 → Bool) (j : Nat) (hj : j < l.length) : (∀ m : Int, (j : Int) ≤ m → m ≤ (l.length : Int) - 1 → p (rd_T46 l m) = true) ↔ p l[j] = true ∧ (l.drop (j + 1)).all p = true := by
  rw [List.all_eq_true]
  constructor
  · intro h
    refine ⟨by have := h j (by omega) (by omega); rw [rd_nat l hj] at this; exact this, fun x hx => ?_⟩
    obtain ⟨i, hi, rfl⟩ := List.getElem_of_mem hx
    rw [List.length_drop] at hi
    have := h ((j + 1 + i : Nat) : Int) (by omega) (by omega)
    rw [rd_nat l (by omega)] at this
    rw [List.getElem_drop]
    exact this
  · rintro ⟨h1, h2⟩ m hm0 hm1
    obtain ⟨i, rfl⟩ := Int.eq_ofNat_of_zero_le (show 0 ≤ m by omega)
    rw [rd_nat l (by omega)]
    by_cases hij : i = j
    · subst hij; exact h1
    · refine h2 _ (List.mem_drop_iff_getElem.2 ⟨i - (j + 1), by omega, ?_⟩)
      congr 1
      omega
theorem blank_of1 {c : S46} (h : c.f0 = 1) : blankB c = true := by unfold blankB; simp [h]
theorem hang_of2 {c : S46} (h : c.f0 = 2) : hangB c = true := by unfold hangB; simp [h]
theorem rolesL_eq (l : List S46) : rolesL l = rolesZ true l := by
  have hlen : (rolesL l).length = l.length := by unfold rolesL; rw [markL_len, markL_len, markL_len, List.length_replicate]
  refine List.ext_getElem (by rw [hlen, rolesZ_len]) fun j h1 h2 => ?_
  have hj : j < l.length := by omega
  have e1 : ∀ (x : List Int) (h : j < x.length), x[j] = rd x (j : Int) := fun x h => by unfold rd; simp [List.getD, h]
  rw [e1 _ h1, e1 _ h2, rolesZ_get true l j hj]
  have hup : ∀ i ∈ wayL l blankB 1 (l.length + 1) 0, 0 ≤ i := fun i hi => ((way_up l blankB _ 0 (by omega) (by omega) i).1 hi).1
  have hdn : ∀ p, ∀ i ∈ wayL l p (-1) (l.length + 1) ((l.length : Int) - 1), 0 ≤ i := fun p i hi => ((way_down l p _ ((l.length : Int) - 1) (by omega) (by omega) (by omega) i).1 hi).1
  unfold rolesL
  rw [markL_get _ _ _ _ _ _ (hdn _) (by rw [markL_len, markL_len, List.length_replicate]; exact hj), markL_get _ _ _ _ _ _ (hdn _) (by rw [markL_len, List.length_replicate]; exact hj), markL_get _ _ _ _ _ _ hup (by rw [List.length_replicate]; exact hj)]
  have a1 := all_take l blankB j hj
  have a2 := all_drop l blankB j hj
  have a3 := all_drop l hangB j hj
  have q1 : (j : Int) ∈ wayL l hangB (-1) (l.length + 1) ((l.length : Int) - 1) ↔ (hangB l[j] = true ∧ (l.drop (j + 1)).all hangB = true) := (way_down l hangB (l.length + 1) ((l.length : Int) - 1) (by omega) (by omega) (by omega) (j : Int)).trans ⟨fun h => a3.1 h.2.2, fun h => ⟨by omega, by omega, a3.2 h⟩⟩
  have q2 : (j : Int) ∈ wayL l blankB (-1) (l.length + 1) ((l.length : Int) - 1) ↔ (blankB l[j] = true ∧ (l.drop (j + 1)).all blankB = true) := (way_down l blankB (l.length + 1) ((l.length : Int) - 1) (by omega) (by omega) (by omega) (j : Int)).trans ⟨fun h => a2.1 h.2.2, fun h => ⟨by omega, by omega, a2.2 h⟩⟩
  have q3 : (j : Int) ∈ wayL l blankB 1 (l.length + 1) 0 ↔ ((l.take j).all blankB = true ∧ blankB l[j] = true) := (way_up l blankB (l.length + 1) 0 (by omega) (by omega) (j : Int)).trans ⟨fun h => a1.1 h.2.2, fun h => ⟨by omega, by omega, a1.2 h⟩⟩
  have cond : ∀ {p q : Prop} [hp : Decidable p] [hq : Decidable q] (_ : p ↔ q) (a b : Int), @ite Int p hp a b = @ite Int q hq a b := by
    intro p q hp hq h a b
    by_cases hh : p
    · rw [if_pos hh, if_pos (h.1 hh)]
    · rw [if_neg hh, if_neg (fun x => hh (h.2 x))]
  have z : rd (List.replicate l.length (0 : Int)) (j : Int) = 0 := by unfold rd; simp [List.getD, hj]
  have ef : (rd_T46 l (j : Int)).f0 = l[j].f0 := by rw [rd_nat l hj]
  rw [cond (and_congr_left' q1), cond (and_congr_left' q2), cond (and_congr_left' q3), z]
  simp only [ef]
  unfold roleZ
  by_cases k1 : l[j].f0 = 1
  · have k2 : ¬ l[j].f0 = 2 := by omega
    have kb := blank_of1 k1
    simp only [k1, kb]
    by_cases c1 : (l.drop (j + 1)).all blankB = true <;> by_cases c2 : (l.take j).all blankB = true <;> simp [c1, c2]
  · by_cases k2 : l[j].f0 = 2
    · have kb := hang_of2 k2
      simp only [k2, kb]
      by_cases c1 : (l.drop (j + 1)).all hangB = true <;> simp [c1]
    · simp [k1, k2]
theorem roles_ev {l : List S46} (hl : l.length ≤ 100000) : trim_Roles.f l = some (rolesZ true l) := by
  unfold trim_Roles.f
  rw [if_pos (by omega), rolesL_eq]
/-- What hangs is gone. -/
def unH (r : Int) : Int := if r = 2 then 1 else r
theorem hangG_len (t : List Int) : ∀ n, (hangG t n).length = t.length
  | 0 => rfl
  | n + 1 => by
    simp only [hangG]
    split <;> simp [hangG_len t n]
theorem hangG_get (t : List Int) (j : Nat) (hj : j < t.length) : ∀ n, n ≤ t.length → rd (hangG t n) (j : Int) = if j < n then unH (rd t (j : Int)) else rd t (j : Int)
  | 0, _ => by simp [hangG]
  | n + 1, hn => by
    have ih := hangG_get t j hj n (by omega)
    have en : ∀ x : List Int, rdOf (0 : Int) x (n : Int) = rd x (n : Int) := fun x => rfl
    simp only [hangG]
    rw [en]
    by_cases hjn : j = n
    · subst hjn
      rw [if_neg (by omega)] at ih
      rw [ih, if_pos (show j < j + 1 by omega)]
      unfold unH
      by_cases h2 : rd t (j : Int) = 2
      · rw [if_pos h2, if_pos h2, rd_set _ _ _ _ (by rw [hangG_len]; exact hj), if_pos rfl]
      · rw [if_neg h2, if_neg h2, ih]
    · have e : (j < n + 1) = (j < n) := by apply propext; omega
      simp only [e]
      rw [← ih]
      split
      · rw [rd_set _ _ _ _ (by rw [hangG_len]; exact hj), if_neg (by omega)]
      · rfl
theorem hangG_map (t : List Int) : hangG t t.length = t.map unH := by
  refine List.ext_getElem (by rw [hangG_len, List.length_map]) fun j h1 h2 => ?_
  rw [List.length_map] at h2
  have := hangG_get t j h2 t.length (Nat.le_refl _)
  rw [if_pos h2] at this
  have e1 : ∀ (x : List Int) (h : j < x.length), x[j] = rd x (j : Int) := fun x h => by unfold rd; simp [List.getD, h]
  rw [List.getElem_map, e1 _ h1, this, e1 _ h2]
/-- The end of what is walked. -/
def endR (rs : List Int) (l : List S46) (x : Int) : Int × Int := if (pensR rs l x).2 = 0 then (lastD x (pensR rs l x).1.tail, 0) else (0, (pensR rs l x).2)
theorem walk_len : ∀ {rs : List Int} {l : List S46} {i : Nat} {x : Int} {ys : List Int}, walk rs l i x = some ys → ys.length = l.length
  | rs, [], i, x, ys, h => by simp only [walk, Option.some.injEq] at h; rw [← h]; rfl
  | rs, c :: l, i, x, ys, h => by
    simp only [walk] at h
    obtain ⟨y, _, h2⟩ := Option.bind_eq_some_iff.1 h
    obtain ⟨zs, h3, h4⟩ := Option.map_eq_some_iff.1 h2
    rw [← h4]
    simp [walk_len h3]
theorem end_tail {rs : List Int} {l : List S46} {x : Int} (hlen : l.length ≤ 100000) {bt : List Int × Int} (hb : bt = pensR rs l x) :
    (if bt.2 = 0 then (if 0 ≤ (wrap64 ((bt.1.length : Int) - 1)) then (if (wrap64 ((bt.1.length : Int) - 1)) < (bt.1.length : Int) then (some (rd bt.1 (wrap64 ((bt.1.length : Int) - 1)), (0 : Int))) else (none)) else (none)) else (some (0, bt.2))) = some (endR rs l x) := by
  subst hb
  unfold endR
  rcases pensR_or rs l x with ⟨e, he, _, hp⟩ | ⟨ys, hp, hw, _, _⟩
  · rw [hp, if_neg he, if_neg he]
  · rw [hp, if_pos rfl, if_pos rfl]
    have hy := walk_len hw
    have e1 : wrap64 (((x :: ys).length : Int) - 1) = (ys.length : Int) := by rw [ws (by simp only [List.length_cons]; omega) (by simp only [List.length_cons]; omega)]; simp only [List.length_cons]; omega
    simp only []
    rw [e1, if_pos (by omega), if_pos (by simp only [List.length_cons]; omega), rd_last]
    rfl
theorem end_eq {rs : List Int} {l : List S46} {x : Int} (hlen : l.length ≤ 100000) (hl : ∀ c ∈ l, okC c) (hx : in64 x) : tabs_End.f l rs x = some (endR rs l x) := by
  unfold tabs_End.f
  rw [pens_eq (by omega) hl hx]
  exact end_tail hlen rfl
theorem fits_eq {l : List S46} {x : Int} (hlen : l.length ≤ 100000) (hl : ∀ c ∈ l, okC c) (hx : in64 x) : trim_Fits.f l x = some (endR ((rolesZ true l).map unH) l x) := by
  unfold trim_Fits.f
  rw [roles_ev hlen, Option.bind_some, hangG_map, end_eq hlen hl hx]
  rfl
end Go.Proofs.Ytdmlnkgpjileaaa.PureF

namespace Go.Proofs.Ytdmlnkgpjileaaa.PureF
set_option linter.unusedVariables false
set_option linter.unusedSimpArgs false
open Go.RowKit Go.Proofs.YtdmlnkgpjileaaaW.PrintWords Go.Proofs.YtdmlnkgpjileaaaW.PrintLast Go.Proofs.YtdmlnkgpjileaaaW.PrintMore Go.Proofs.Ytdmlnkgpjileaaa.Hand Go.Proofs.Ytdmlnkgpjileaaa.HFirst
theorem tdm (x : Int) : 1000000 * x.tdiv 1000000 + x.tmod 1000000 = x ∧ -1000000 < x.tmod 1000000 ∧ x.tmod 1000000 < 1000000 := by
  have h := Int.mul_tdiv_add_tmod x 1000000
  refine ⟨h, ?_, Int.tmod_lt_of_pos x (by decide)⟩
  have := Int.tmod_lt_of_pos (-x) (show (0 : Int) < 1000000 by decide)
  rw [Int.neg_tmod] at this
  omega
theorem rfits (x : Int) : stickfulref01_fits.f x = some (decide (fits x)) := by
  unfold stickfulref01_fits.f fits
  by_cases h1 : x ≥ -4611686018427387904
  · rw [if_pos h1]
    by_cases h2 : x ≤ 4611686018427387904 <;> simp [h2] <;> omega
  · rw [if_neg h1]; congr 1; exact (decide_eq_false (fun h => h1 h.1)).symm
theorem rfits12 (x : Int) : stickfulref12_fits.f x = some (decide (fits x)) := by
  unfold stickfulref12_fits.f fits
  by_cases h1 : x ≥ -4611686018427387904
  · rw [if_pos h1]
    by_cases h2 : x ≤ 4611686018427387904 <;> simp [h2] <;> omega
  · rw [if_neg h1]; congr 1; exact (decide_eq_false (fun h => h1 h.1)).symm
def sumE (s : Int) : Int × Int := if fits s then (s, 0) else (0, 10)
theorem rd_int (l : List Int) {i : Nat} (hi : i < l.length) : rd l (i : Int) = l[i] := by unfold rd; simp [List.getD, hi]
theorem rsum_l0 (l : List Int) (h : ∀ x ∈ l, in64 x) (hl : l.length ≤ 1000) : ∀ (r i : Nat) (hi lo : Int), i + r = l.length → -(i * 9223372036855) ≤ hi → hi ≤ i * 9223372036855 → -(i * 1000000) ≤ lo → lo ≤ i * 1000000 →
    Ev (fun k => stickfulref01_Sum.l0 k l hi lo (i : Int)) (sumE (1000000 * hi + lo + (l.drop i).sum)) := by
  intro r
  induction r with
  | zero =>
    intro i hi lo hir h1 h2 h3 h4
    have hd : (l.drop i).sum = 0 := by rw [List.drop_of_length_le (by omega)]; rfl
    rw [hd, Int.add_zero]
    obtain ⟨e1, e2, e3⟩ := tdm lo
    have b1 : -1000 ≤ lo.tdiv 1000000 ∧ lo.tdiv 1000000 ≤ 1000 := by constructor <;> omega
    have w1 : wrap64 (lo.tdiv 1000000) = lo.tdiv 1000000 := ws (by omega) (by omega)
    have w2 : wrap64 (hi + lo.tdiv 1000000) = hi + lo.tdiv 1000000 := ws (by omega) (by omega)
    have key : ∀ k, stickfulref01_Sum.l0 (k + 1) l hi lo (i : Int) = stickfulref01_Sum.j1 k (hi + lo.tdiv 1000000) (lo.tmod 1000000) (decide (hi + lo.tdiv 1000000 > 4611686018428) || decide (hi + lo.tdiv 1000000 < -4611686018428)) := by
      intro k
      simp only [stickfulref01_Sum.l0]
      rw [if_neg (by omega), w1, w2]
      by_cases c : hi + lo.tdiv 1000000 > 4611686018428
      · rw [if_pos c, decide_eq_true c]; rfl
      · rw [if_neg c, decide_eq_false c]; rfl
    refine Ev.step key ?_
    by_cases c : hi + lo.tdiv 1000000 > 4611686018428 ∨ hi + lo.tdiv 1000000 < -4611686018428
    · have ec : (decide (hi + lo.tdiv 1000000 > 4611686018428) || decide (hi + lo.tdiv 1000000 < -4611686018428)) = true := by simpa using c
      rw [ec]
      have nf : ¬ fits (1000000 * hi + lo) := by unfold fits; omega
      unfold sumE
      rw [if_neg nf]
      exact Ev.step (f := fun _ => some (0, 10)) (fun k => by simp only [stickfulref01_Sum.j1]; rw [if_pos trivial]) (Ev.now _)
    · have ec : (decide (hi + lo.tdiv 1000000 > 4611686018428) || decide (hi + lo.tdiv 1000000 < -4611686018428)) = false := by simp; omega
      rw [ec]
      have w3 : wrap64 ((hi + lo.tdiv 1000000) * 1000000) = (hi + lo.tdiv 1000000) * 1000000 := ws (by omega) (by omega)
      have w4 : wrap64 ((hi + lo.tdiv 1000000) * 1000000 + lo.tmod 1000000) = 1000000 * hi + lo := by rw [ws (by omega) (by omega)]; omega
      refine Ev.step (f := fun _ => some (sumE (1000000 * hi + lo))) (fun k => ?_) (Ev.now _)
      simp only [stickfulref01_Sum.j1]
      rw [if_neg (by decide), w3, w4, rfits]
      simp only [Option.bind_some]
      unfold sumE
      by_cases hf : fits (1000000 * hi + lo)
      · rw [decide_eq_true hf, if_pos rfl, if_pos hf]
      · rw [decide_eq_false hf, if_neg (by decide), if_neg hf]
  | succ r ih =>
    intro i hi lo hir h1 h2 h3 h4
    have hx := h l[i] (List.getElem_mem (by omega))
    unfold in64 at hx
    obtain ⟨e1, e2, e3⟩ := tdm l[i]
    have hd : (l.drop i).sum = l[i] + (l.drop (i + 1)).sum := by rw [List.drop_eq_getElem_cons (by omega), List.sum_cons]
    have e4 : 1000000 * hi + lo + (l.drop i).sum = 1000000 * (hi + (l[i]).tdiv 1000000) + (lo + (l[i]).tmod 1000000) + (l.drop (i + 1)).sum := by rw [hd]; omega
    rw [e4]
    refine Ev.step (fun k => ?_) (ih (i + 1) (hi + (l[i]).tdiv 1000000) (lo + (l[i]).tmod 1000000) (by omega) (by omega) (by omega) (by omega) (by omega))
    simp only [stickfulref01_Sum.l0]
    rw [if_pos (by omega), if_pos (by omega), rd_int l (by omega), ws (x := (l[i]).tdiv 1000000) (by omega) (by omega), ws (x := hi + (l[i]).tdiv 1000000) (by omega) (by omega), ws (x := lo + (l[i]).tmod 1000000) (by omega) (by omega), w1 (by omega)]
theorem rsum_ev {l : List Int} (h : ∀ x ∈ l, in64 x) (hl : l.length ≤ 1000) : Ev (fun k => stickfulref01_Sum.f k l) (sumE l.sum) := by
  have := rsum_l0 l h hl l.length 0 0 0 (by omega) (by omega) (by omega) (by omega) (by omega)
  have e : 1000000 * (0 : Int) + 0 + (l.drop 0).sum = l.sum := by simp
  rw [e] at this
  exact this
theorem rstep_ev {c : S46} (hc : okC c) (hb : badTab c = false) {x : Int} (hx : fits x) : Ev (fun k => stickfulref12_Step.f k c.f0 c.f1 c.f2 c.f3 c.f4 c.f5 x) (match nxt c x with | some y => (y, 0) | none => (0, 10)) := by
  have hx1 := in_of_fits hx
  unfold stickfulref12_Step.f nxt
  by_cases h4 : c.f0 = 4
  · have h3 : ¬ c.f3 < 0 := by
      intro h
      unfold badTab at hb
      rw [h4, decide_eq_true h] at hb
      cases hb
    simp only [if_pos h4]
    rw [decide_eq_false h3]
    by_cases h0 : c.f3 = 0
    · refine Ev.step (f := fun _ => some (x, 0)) (fun k => ?_) (by rw [if_pos h0]; exact Ev.now _)
      simp only [stickfulref12_Step.j0]
      rw [if_neg (by decide), if_pos h4, rfits12, decide_eq_true hx, Option.bind_some, if_pos rfl, if_pos h0]
    · have hd : 0 < c.f3 := by omega
      have hi : c.f3 ≤ 9223372036854775807 := hc.2
      have hm1 : 0 ≤ x % c.f3 := Int.emod_nonneg x (by omega)
      have hm2 : x % c.f3 < c.f3 := Int.emod_lt_of_pos x hd
      have key : Ev (fun k => stickfulref01_Stop.f k x c.f3) (sumE (x - x % c.f3 + c.f3)) := by
        have hs : Ev (fun k => (stickfulref01_Sum.f k [x, -(x % c.f3), c.f3]).bind fun bt => some (bt.1, bt.2)) (sumE (x - x % c.f3 + c.f3)) := by
          refine Ev.bind (a := sumE (x - x % c.f3 + c.f3)) ?_ (Ev.now _)
          have es : x - x % c.f3 + c.f3 = [x, -(x % c.f3), c.f3].sum := by simp; omega
          rw [es]
          refine rsum_ev ?_ (by simp)
          intro y hy
          simp at hy
          rcases hy with rfl | rfl | rfl
          · exact hx1
          · unfold in64; omega
          · exact hc
        refine Ev.congr (fun k => ?_) hs
        unfold stickfulref01_Stop.f
        rw [if_neg (by omega), if_neg h0]
        rcases tmod_cases (x := x) hd with ⟨ht, he⟩ | ⟨ht, he⟩
        · rw [if_pos ht, show wrap64 (x.tmod c.f3 + c.f3) = x % c.f3 by rw [he]; exact ws (by omega) (by omega), ws (x := -(x % c.f3)) (by omega) (by omega)]
        · rw [if_neg ht, ← he, ws (x := -(x % c.f3)) (by omega) (by omega)]
      refine Ev.step (f := fun k => (stickfulref01_Stop.f k x c.f3).bind fun bt => some (bt.1, bt.2)) (fun k => ?_) ?_
      · simp only [stickfulref12_Step.j0]
        rw [if_neg (by decide), if_pos h4, rfits12, decide_eq_true hx, Option.bind_some, if_pos rfl, if_neg h0]
      · refine Ev.bind key ?_
        rw [if_neg h0]
        unfold sumE fitO
        by_cases hf : fits (x - x % c.f3 + c.f3)
        · rw [if_pos hf, if_pos hf]; exact Ev.now _
        · rw [if_neg hf, if_neg hf]; exact Ev.now _
  · simp only [if_neg h4]
    refine Ev.step (f := fun k => (stickfulref01_Sum.f k [x, c.f3]).bind fun bt => some (bt.1, bt.2)) (fun k => ?_) ?_
    · simp only [stickfulref12_Step.j0]
      rw [if_neg (by decide), if_neg h4]
    · refine Ev.bind (rsum_ev (l := [x, c.f3]) (by
        intro y hy
        simp at hy
        rcases hy with rfl | rfl
        · exact hx1
        · exact hc) (by simp)) ?_
      have es : [x, c.f3].sum = x + c.f3 := by simp
      rw [es]
      unfold sumE fitO
      by_cases hf : fits (x + c.f3)
      · rw [if_pos hf, if_pos hf]; exact Ev.now _
      · rw [if_neg hf, if_neg hf]; exact Ev.now _
def penR (acc : List Int) (o : Option (List Int)) : List Int × Int := match o with | some ys => (acc ++ ys, 0) | none => ([], 10)
theorem rpens_l1 (l : List S46) (rs : List Int) (x0 : Int) (hlen : l.length ≤ 100000) (hl : ∀ c ∈ l, okC c ∧ badTab c = false) : ∀ (r i : Nat) (x : Int) (acc : List Int), i + r = l.length → acc.length ≤ i + 1 → fits x →
    Ev (fun k => stickfulref12_Pens.l1 k l rs x acc (i : Int)) (penR acc (walk rs (l.drop i) i x)) := by
  intro r
  induction r with
  | zero =>
    intro i x acc hi ha hx
    rw [List.drop_of_length_le (by omega)]
    refine Ev.step (f := fun _ => some (acc, 0)) (fun k => ?_) (by simp only [walk, penR, List.append_nil]; exact Ev.now _)
    simp only [stickfulref12_Pens.l1]
    rw [if_neg (by omega)]
  | succ r ih =>
    intro i x acc hi ha hx
    obtain ⟨hc, hb⟩ := hl l[i] (List.getElem_mem (by omega))
    rw [List.drop_eq_getElem_cons (by omega)]
    simp only [walk]
    have hp : ∀ k, stickfulref12_Pens.l1 (k + 1) l rs x acc (i : Int) = stickfulref12_Pens.j2 k l rs x acc (i : Int) (roleAt rs i == 1) := by
      intro k
      simp only [stickfulref12_Pens.l1]
      rw [if_pos (by omega)]
      unfold roleAt
      by_cases hr : (i : Int) < (rs.length : Int)
      · rw [if_pos hr, if_pos hr, if_pos (by omega)]
      · rw [if_neg hr, if_neg hr]; rfl
    refine Ev.step hp ?_
    unfold nxtR
    by_cases h1 : roleAt rs i = 1
    · rw [if_pos h1, h1]
      have := ih (i + 1) x (acc ++ [x]) (by omega) (by simp; omega) hx
      have e : penR acc ((some x).bind fun y => (walk rs (l.drop (i + 1)) (i + 1) y).map (y :: ·)) = penR (acc ++ [x]) (walk rs (l.drop (i + 1)) (i + 1) x) := by
        rw [Option.bind_some]
        cases walk rs (l.drop (i + 1)) (i + 1) x <;> simp [penR]
      rw [e]
      refine Ev.step (fun k => ?_) this
      simp only [stickfulref12_Pens.j2]
      rw [if_pos (by decide), if_pos (by omega), w1 (by omega)]
    · rw [if_neg h1, show (roleAt rs i == 1) = false by simpa using h1]
      refine Ev.step (f := fun k => (stickfulref12_Step.f k l[i].f0 l[i].f1 l[i].f2 l[i].f3 l[i].f4 l[i].f5 x).bind fun bt => if bt.2 = 0 then (if acc.length < 17592186044416 then (stickfulref12_Pens.l1 k l rs bt.1 (acc ++ [bt.1]) (wrap64 ((i : Int) + 1))) else (none)) else (some (([] : List Int), bt.2))) (fun k => ?_) (Ev.bind (rstep_ev hc hb hx) ?_)
      · simp only [stickfulref12_Pens.j2]
        rw [if_neg (by decide), if_pos (by omega), if_pos (by omega), rd_nat l (by omega)]
      · cases hn : nxt l[i] x with
        | none => exact Ev.congr (f := fun _ => some (([] : List Int), (10 : Int))) (fun k => if_neg (by decide)) (Ev.now _)
        | some y =>
          have hy := nxt_fits hx hn
          have := ih (i + 1) y (acc ++ [y]) (by omega) (by simp; omega) hy
          have e : penR acc ((some y).bind fun y => (walk rs (l.drop (i + 1)) (i + 1) y).map (y :: ·)) = penR (acc ++ [y]) (walk rs (l.drop (i + 1)) (i + 1) y) := by
            rw [Option.bind_some]
            cases walk rs (l.drop (i + 1)) (i + 1) y <;> simp [penR]
          rw [e]
          refine Ev.congr (fun k => ?_) this
          simp only []
          rw [if_pos trivial, if_pos (by omega), w1 (by omega)]
theorem rpens_l0 (l : List S46) (rs : List Int) (x : Int) (hlen : l.length ≤ 100000) (hl : ∀ c ∈ l, okC c) : ∀ (r i : Nat), i + r = l.length → (l.take i).any badTab = false →
    Ev (fun k => stickfulref12_Pens.l0 k l rs x (i : Int)) (pensR rs l x) := by
  intro r
  induction r with
  | zero =>
    intro i hi ht
    rw [List.take_of_length_le (by omega)] at ht
    refine Ev.step (f := fun k => if decide (fits x) = true then stickfulref12_Pens.l1 k l rs x [x] 0 else some ([], 10)) (fun k => ?_) ?_
    · simp only [stickfulref12_Pens.l0]
      rw [if_neg (by omega), rfits12]
      rfl
    · unfold pensR
      rw [ht, if_neg (by decide)]
      by_cases hf : fits x
      · rw [if_pos hf]
        refine Ev.congr (fun k => if_pos (decide_eq_true hf)) ?_
        have := rpens_l1 l rs x hlen (fun c hc => ⟨hl c hc, by simpa using List.any_eq_false.1 ht c hc⟩) l.length 0 x [x] (by omega) (by simp) hf
        rw [List.drop_zero] at this
        cases hw : walk rs l 0 x with
        | none => rw [hw] at this; exact this
        | some ys => rw [hw] at this; exact this
      · rw [if_neg hf]
        exact Ev.congr (fun k => if_neg (by simpa using hf)) (Ev.now _)
  | succ r ih =>
    intro i hi ht
    by_cases hb : badTab l[i] = true
    · have h2 : l[i].f0 = 4 ∧ l[i].f3 < 0 := by unfold badTab at hb; simpa using hb
      have e : pensR rs l x = ([], 2) := by
        unfold pensR
        rw [if_pos (List.any_eq_true.2 ⟨l[i], List.getElem_mem _, hb⟩)]
      rw [e]
      refine Ev.step (f := fun _ => some (([] : List Int), (2 : Int))) (fun k => ?_) (Ev.now _)
      simp only [stickfulref12_Pens.l0]
      rw [if_pos (by omega), if_pos (by omega), rd_nat l (by omega), if_pos h2.1, if_pos h2.2]
    · have hb2 : badTab l[i] = false := by simpa using hb
      refine Ev.step (fun k => ?_) (ih (i + 1) (by omega) (by rw [List.take_add_one, List.any_append, ht, List.getElem?_eq_getElem (by omega)]; simp [hb2]))
      simp only [stickfulref12_Pens.l0]
      rw [if_pos (by omega), if_pos (by omega), rd_nat l (by omega), w1 (by omega)]
      by_cases h4 : l[i].f0 = 4
      · have h3 : ¬ l[i].f3 < 0 := by
          intro h
          unfold badTab at hb2
          rw [h4, decide_eq_true h] at hb2
          cases hb2
        rw [if_pos h4, if_neg h3]
      · rw [if_neg h4]
theorem rend_ev {l : List S46} {rs : List Int} {x : Int} (hlen : l.length ≤ 100000) (hl : ∀ c ∈ l, okC c) : Ev (fun k => stickfulref12_End.f k l rs x) (endR rs l x) := by
  unfold stickfulref12_End.f
  refine Ev.bind (a := pensR rs l x) (rpens_l0 l rs x hlen hl l.length 0 (by omega) rfl) ?_
  exact Ev.congr (fun k => end_tail hlen rfl) (Ev.now _)
def justP (a b : Int) (c : S46) : Bool := edgeB c || (c.f0 == a || c.f0 == b)
theorem redge (c : S46) : stickfulref13_edge.f c.f0 c.f1 c.f2 c.f3 c.f4 c.f5 = some (edgeB c) := by
  unfold stickfulref13_edge.f edgeB
  by_cases h1 : c.f0 = 7
  · simp [h1]
  · by_cases h2 : c.f0 = 8
    · simp [h2]
    · have b1 : (c.f0 == 7) = false := by simpa using h1
      have b2 : (c.f0 == 8) = false := by simpa using h2
      rw [if_neg h1, if_neg h2, b1, b2]; rfl
theorem rjust_l0 (l : List S46) (a b : Int) (hlen : l.length ≤ 100000) : ∀ (r i : Nat), i + r = l.length → Ev (fun k => stickfulref13_just.l0 k l a b (i : Int)) ((l.drop i).all (justP a b)) := by
  intro r
  induction r with
  | zero =>
    intro i hi
    rw [List.drop_of_length_le (by omega)]
    refine Ev.step (f := fun _ => some true) (fun k => ?_) (Ev.now _)
    simp only [stickfulref13_just.l0]
    rw [if_neg (by omega)]
  | succ r ih =>
    intro i hi
    rw [List.drop_eq_getElem_cons (by omega), List.all_cons]
    by_cases hj : justP a b l[i] = true
    · rw [hj, Bool.true_and]
      refine Ev.step (fun k => ?_) (ih (i + 1) (by omega))
      simp only [stickfulref13_just.l0]
      rw [if_pos (by omega), if_pos (by omega), rd_nat l (by omega), redge, Option.bind_some, w1 (by omega)]
      unfold justP at hj
      by_cases e1 : edgeB l[i] = true
      · rw [if_pos e1]
      · by_cases e2 : l[i].f0 = a
        · rw [if_neg e1, if_pos e2]
        · have e3 : l[i].f0 = b := by simpa [e1, e2] using hj
          rw [if_neg e1, if_neg e2, if_pos e3]
    · have hj2 : justP a b l[i] = false := by simpa using hj
      rw [hj2, Bool.false_and]
      refine Ev.step (f := fun _ => some false) (fun k => ?_) (Ev.now _)
      simp only [stickfulref13_just.l0]
      rw [if_pos (by omega), if_pos (by omega), rd_nat l (by omega), redge, Option.bind_some]
      have h3 : edgeB l[i] = false ∧ ¬ l[i].f0 = a ∧ ¬ l[i].f0 = b := by unfold justP at hj2; simpa using hj2
      rw [h3.1, if_neg (by decide), if_neg h3.2.1, if_neg h3.2.2]
theorem rjust_ev (l : List S46) (a b : Int) (hlen : l.length ≤ 100000) : Ev (fun k => stickfulref13_just.f k l a b) (l.all (justP a b)) := rjust_l0 l a b hlen l.length 0 (by omega)
theorem just11 : justP 1 1 = blankB := by funext c; unfold justP blankB; simp
theorem just12 : justP 1 2 = hangB := by funext c; unfold justP hangB blankB; simp [Bool.or_assoc]
theorem rrole_ev (l : List S46) (i : Nat) (hi : i < l.length) (hlen : l.length ≤ 100000) : Ev (fun k => stickfulref13_Role.f k l (i : Int)) (roleZ ((l.take i).all blankB) l[i] (l.drop (i + 1))) := by
  unfold stickfulref13_Role.f
  have hw : wrap64 ((i : Int) + 1) = ((i + 1 : Nat) : Int) := w1 (by omega)
  have ht : ((i : Int)).toNat = i := rfl
  have ht2 : (((i + 1 : Nat) : Int)).toNat = i + 1 := rfl
  have j_true : Ev (fun k => stickfulref13_Role.j0 k l (i : Int) true) 1 := Ev.step (f := fun _ => some 1) (fun k => by simp only [stickfulref13_Role.j0]; rw [if_pos trivial]) (Ev.now _)
  have j_false : l[i].f0 ≠ 2 → Ev (fun k => stickfulref13_Role.j0 k l (i : Int) false) 0 := fun h => Ev.step (f := fun _ => some 0) (fun k => by
    simp only [stickfulref13_Role.j0]
    rw [if_neg (by decide), if_pos (by omega), if_pos (by omega), rd_nat l hi, if_neg h]) (Ev.now _)
  by_cases h1 : l[i].f0 = 1
  · have h2 : l[i].f0 ≠ 2 := by omega
    refine Ev.congr (f := fun k => (stickfulref13_just.f k (l.take i) 1 1).bind fun t221 => (if t221 = true then (stickfulref13_Role.j0 k l (i : Int) true) else ((stickfulref13_just.f k (l.drop (i + 1)) 1 1).bind fun t226 => (stickfulref13_Role.j0 k l (i : Int) t226)))) (fun k => ?_) ?_
    · rw [if_pos (by omega), if_pos (by omega), rd_nat l hi, if_pos h1, if_pos (by omega), hw, ht, ht2]
      simp only [show (0 : Int) ≤ ((i + 1 : Nat) : Int) by omega, show ((i + 1 : Nat) : Int) ≤ (l.length : Int) by omega, if_true]
    · refine Ev.bind (rjust_ev _ 1 1 (by rw [List.length_take]; omega)) ?_
      rw [just11]
      unfold roleZ
      by_cases c1 : (l.take i).all blankB = true
      · rw [if_pos ⟨h1, .inl c1⟩]
        exact Ev.congr (fun k => if_pos c1) j_true
      · refine Ev.congr (fun k => if_neg c1) ?_
        refine Ev.bind (rjust_ev _ 1 1 (by rw [List.length_drop]; omega)) ?_
        rw [just11]
        by_cases c2 : (l.drop (i + 1)).all blankB = true
        · rw [if_pos ⟨h1, .inr c2⟩, c2]; exact j_true
        · rw [if_neg (fun h => h.2.elim c1 c2), if_neg (fun h => h2 h.1), show (l.drop (i + 1)).all blankB = false by simpa using c2]
          exact j_false h2
  · refine Ev.congr (f := fun k => stickfulref13_Role.j0 k l (i : Int) false) (fun k => by rw [if_pos (by omega), if_pos (by omega), rd_nat l hi, if_neg h1]) ?_
    unfold roleZ
    rw [if_neg (fun h => h1 h.1)]
    by_cases h2 : l[i].f0 = 2
    · refine Ev.step (f := fun k => (stickfulref13_just.f k (l.drop (i + 1)) 1 2).bind fun t232 => (if t232 = true then (some 2) else (some 0))) (fun k => ?_) ?_
      · simp only [stickfulref13_Role.j0]
        rw [if_neg (by decide), if_pos (by omega), if_pos (by omega), rd_nat l hi, if_pos h2, hw, if_pos (by omega), if_pos (by omega), ht2]
      · refine Ev.bind (rjust_ev _ 1 2 (by rw [List.length_drop]; omega)) ?_
        rw [just12]
        by_cases c : (l.drop (i + 1)).all hangB = true
        · rw [if_pos (show l[i].f0 = 2 ∧ (l.drop (i + 1)).all hangB = true from ⟨h2, c⟩)]; exact Ev.congr (fun k => if_pos c) (Ev.now _)
        · rw [if_neg (show ¬ (l[i].f0 = 2 ∧ (l.drop (i + 1)).all hangB = true) from fun h => c h.2)]; exact Ev.congr (fun k => if_neg c) (Ev.now _)
    · rw [if_neg (fun h => h2 h.1)]
      exact j_false h2
theorem rrole_ev2 (l : List S46) (i : Nat) (hi : i < l.length) (hlen : l.length ≤ 100000) : Ev (fun k => stickfulref13_Role.f k l (i : Int)) (rd (rolesZ true l) (i : Int)) := by
  rw [rolesZ_get true l i hi, Bool.true_and]
  exact rrole_ev l i hi hlen
theorem take_rd (t : List Int) {i : Nat} (hi : i < t.length) : t.take i ++ [rd t (i : Int)] = t.take (i + 1) := by
  rw [List.take_add_one, List.getElem?_eq_getElem hi, rd_int t hi]; rfl
theorem rroles_l0 (l : List S46) (hlen : l.length ≤ 100000) : ∀ (r i : Nat), i + r = l.length → Ev (fun k => stickfulref13_Roles.l0 k l ((rolesZ true l).take i) (i : Int)) (rolesZ true l) := by
  intro r
  have hz := rolesZ_len true l
  induction r with
  | zero =>
    intro i hi
    rw [List.take_of_length_le (by omega)]
    refine Ev.step (f := fun _ => some (rolesZ true l)) (fun k => ?_) (Ev.now _)
    simp only [stickfulref13_Roles.l0]
    rw [if_neg (by omega)]
  | succ r ih =>
    intro i hi
    refine Ev.step (f := fun k => (stickfulref13_Role.f k l (i : Int)).bind fun t233 => (if ((rolesZ true l).take i).length < 140737488355328 then (stickfulref13_Roles.l0 k l (((rolesZ true l).take i) ++ [t233]) (wrap64 ((i : Int) + 1))) else (none))) (fun k => ?_) (Ev.bind (rrole_ev2 l i (by omega) hlen) ?_)
    · simp only [stickfulref13_Roles.l0]
      rw [if_pos (by omega)]
    · refine Ev.congr (fun k => ?_) (ih (i + 1) (by omega))
      rw [if_pos (by rw [List.length_take]; omega), take_rd _ (by omega), w1 (by omega)]
theorem rroles_ev (l : List S46) (hlen : l.length ≤ 100000) : Ev (fun k => stickfulref13_Roles.f k l) (rolesZ true l) := rroles_l0 l hlen l.length 0 (by omega)
theorem rfits_l0 {l : List S46} {x : Int} (hlen : l.length ≤ 100000) (hl : ∀ c ∈ l, okC c) (t : List Int) (ht : t.length ≤ 100000) : ∀ (r i : Nat), i + r = t.length → Ev (fun k => stickfulref13_Fits.l0 k l x (hangG t i) (i : Int)) (endR (t.map unH) l x) := by
  intro r
  induction r with
  | zero =>
    intro i hi
    have he : i = t.length := by omega
    subst he
    refine Ev.step (f := fun k => (stickfulref12_End.f k l (hangG t t.length) x).bind fun bt => some (bt.1, bt.2)) (fun k => ?_) ?_
    · simp only [stickfulref13_Fits.l0]
      rw [if_neg (by rw [hangG_len]; omega)]
    · rw [hangG_map]
      exact Ev.bind (rend_ev hlen hl) (Ev.now _)
  | succ r ih =>
    intro i hi
    refine Ev.step (fun k => ?_) (ih (i + 1) (by omega))
    simp only [stickfulref13_Fits.l0, hangG]
    rw [if_pos (by rw [hangG_len]; omega), if_pos (by omega), w1 (by omega)]
    have en : rdOf (0 : Int) (hangG t i) (i : Int) = rd (hangG t i) (i : Int) := rfl
    rw [en]
    by_cases h : rd (hangG t i) (i : Int) = 2
    · rw [if_pos h, if_pos h]; rfl
    · rw [if_neg h, if_neg h]
theorem rfits_ev {l : List S46} {x : Int} (hlen : l.length ≤ 100000) (hl : ∀ c ∈ l, okC c) : Ev (fun k => stickfulref13_Fits.f k l x) (endR ((rolesZ true l).map unH) l x) := by
  unfold stickfulref13_Fits.f
  exact Ev.bind (rroles_ev l hlen) (rfits_l0 hlen hl _ (by rw [rolesZ_len]; exact hlen) (rolesZ true l).length 0 (by omega))
def blkAt (l : List S46) (i : Nat) : Bool := (rd (rolesZ true l) (i : Int) == 1) || edgeB (rd_T46 l (i : Int))
def blkR (l : List S46) : Nat → Nat → Bool
  | 0, _ => true
  | r + 1, i => blkAt l i && blkR l r (i + 1)
theorem tedge (c : S46) : trim_edge.f c.f0 c.f1 c.f2 c.f3 c.f4 c.f5 = some (edgeB c) := edge_eq c
theorem rblank_l0 (l : List S46) (hlen : l.length ≤ 100000) : ∀ (r i : Nat), i + r = l.length → Ev (fun k => stickfulref13_Blank.l0 k l (i : Int)) (blkR l r i) := by
  intro r
  induction r with
  | zero =>
    intro i hi
    refine Ev.step (f := fun _ => some true) (fun k => ?_) (Ev.now _)
    simp only [stickfulref13_Blank.l0]
    rw [if_neg (by omega)]
  | succ r ih =>
    intro i hi
    have h2 : ∀ k, stickfulref13_Blank.l0 (k + 1) l (i : Int) = if edgeB (rd_T46 l (i : Int)) = true then stickfulref13_Blank.l0 k l ((i + 1 : Nat) : Int) else (stickfulref13_Role.f k l (i : Int)).bind fun t294 => (if t294 = 1 then (stickfulref13_Blank.l0 k l ((i + 1 : Nat) : Int)) else (some false)) := by
      intro k
      simp only [stickfulref13_Blank.l0]
      rw [if_pos (by omega), if_pos (by omega), redge, Option.bind_some, w1 (by omega)]
    refine Ev.step h2 ?_
    simp only [blkR, blkAt]
    by_cases he : edgeB (rd_T46 l (i : Int)) = true
    · rw [he, Bool.or_true, Bool.true_and]
      exact Ev.congr (fun k => if_pos rfl) (ih (i + 1) (by omega))
    · have he2 : edgeB (rd_T46 l (i : Int)) = false := by simpa using he
      rw [he2, Bool.or_false]
      refine Ev.congr (fun k => if_neg (by decide)) (Ev.bind (rrole_ev2 l i (by omega) hlen) ?_)
      by_cases h1 : rd (rolesZ true l) (i : Int) = 1
      · rw [h1]; exact Ev.congr (fun k => if_pos rfl) (ih (i + 1) (by omega))
      · rw [show (rd (rolesZ true l) (i : Int) == 1) = false by simpa using h1]
        exact Ev.congr (fun k => if_neg h1) (Ev.now _)
theorem rblank_ev (l : List S46) (hlen : l.length ≤ 100000) : Ev (fun k => stickfulref13_Blank.f k l) (blkR l l.length 0) := rblank_l0 l hlen l.length 0 (by omega)
theorem tblank_l0 (l : List S46) (hlen : l.length ≤ 100000) : ∀ (r i : Nat), i + r = l.length → Ev (fun k => trim_Blank.l0 k l (rolesZ true l) ((rolesZ true l).length : Int) (i : Int)) (blkR l r i) := by
  have hz := rolesZ_len true l
  intro r
  induction r with
  | zero =>
    intro i hi
    refine Ev.step (f := fun _ => some true) (fun k => ?_) (Ev.now _)
    simp only [trim_Blank.l0]
    rw [if_neg (by omega)]
  | succ r ih =>
    intro i hi
    have h2 : ∀ k, trim_Blank.l0 (k + 1) l (rolesZ true l) ((rolesZ true l).length : Int) (i : Int) = if rd (rolesZ true l) (i : Int) = 1 then trim_Blank.l0 k l (rolesZ true l) ((rolesZ true l).length : Int) ((i + 1 : Nat) : Int) else (if edgeB (rd_T46 l (i : Int)) = true then trim_Blank.l0 k l (rolesZ true l) ((rolesZ true l).length : Int) ((i + 1 : Nat) : Int) else some false) := by
      intro k
      simp only [trim_Blank.l0]
      rw [if_pos (by omega), if_pos (by omega), if_pos (by omega), if_pos (show (i : Int) < (l.length : Int) by omega), tedge, Option.bind_some, w1 (by omega)]
    refine Ev.step h2 ?_
    simp only [blkR, blkAt]
    by_cases h1 : rd (rolesZ true l) (i : Int) = 1
    · rw [show (rd (rolesZ true l) (i : Int) == 1) = true by simpa using h1, Bool.true_or, Bool.true_and]
      exact Ev.congr (fun k => if_pos h1) (ih (i + 1) (by omega))
    · rw [show (rd (rolesZ true l) (i : Int) == 1) = false by simpa using h1, Bool.false_or]
      refine Ev.congr (fun k => if_neg h1) ?_
      by_cases he : edgeB (rd_T46 l (i : Int)) = true
      · rw [he, Bool.true_and]
        exact Ev.congr (fun k => if_pos rfl) (ih (i + 1) (by omega))
      · rw [show edgeB (rd_T46 l (i : Int)) = false by simpa using he, Bool.false_and]
        exact Ev.congr (fun k => if_neg (by decide)) (Ev.now _)
theorem tblank_ev (l : List S46) (hlen : l.length ≤ 100000) : Ev (fun k => trim_Blank.f k l) (blkR l l.length 0) := by
  unfold trim_Blank.f
  rw [roles_ev hlen]
  exact tblank_l0 l hlen l.length 0 (by omega)
end Go.Proofs.Ytdmlnkgpjileaaa.PureF
namespace Go.Proofs.Ytdmlnkgpjileaaa.PureF
set_option linter.unusedVariables false
set_option linter.unusedSimpArgs false
open Go.RowKit Go.Proofs.YtdmlnkgpjileaaaW.PrintWords Go.Proofs.YtdmlnkgpjileaaaW.PrintLast Go.Proofs.YtdmlnkgpjileaaaW.PrintMore Go.Proofs.Ytdmlnkgpjileaaa.Hand Go.Proofs.Ytdmlnkgpjileaaa.HFirst
theorem seg_mem {l : List S46} {a b : Int} {c : S46} (h : c ∈ segL l a b) : c ∈ l := List.mem_of_mem_take (List.mem_of_mem_drop h)
theorem seg_len (l : List S46) (a b : Int) : (segL l a b).length ≤ l.length := by
  unfold segL
  rw [List.length_drop, List.length_take]
  omega
def bl (s : List S46) : Bool := blkR s s.length 0
/-- Whether cells, and a place, may be. -/
def mayR (l : List S46) (fr : Int) : Bool := !l.any badTab && (decide (0 ≤ fr) && decide (fr ≤ (l.length : Int)))
theorem bad_iff (c : S46) : badTab c = true ↔ c.f0 = 4 ∧ c.f3 < 0 := by unfold badTab; simp
theorem may_end (l : List S46) (fr : Int) (h : l.any badTab = false) : (if fr ≥ 0 then (some (decide (fr ≤ (l.length : Int)))) else (some false)) = some (mayR l fr) := by
  unfold mayR
  rw [h]
  by_cases h0 : 0 ≤ fr
  · rw [if_pos h0, decide_eq_true h0]; rfl
  · rw [if_neg h0, decide_eq_false h0]; rfl
theorem any_snoc {l : List S46} {i : Nat} (hi : i < l.length) : (l.take (i + 1)).any badTab = ((l.take i).any badTab || badTab l[i]) := by
  rw [List.take_add_one, List.any_append, List.getElem?_eq_getElem hi]
  simp
theorem pmay_l0 (l : List S46) (fr : Int) (hlen : l.length ≤ 100000) : ∀ (r i : Nat), i + r = l.length → (l.take i).any badTab = false → Ev (fun k => fill_may.l0 k l fr l (l.length : Int) (i : Int)) (mayR l fr) := by
  intro r
  induction r with
  | zero =>
    intro i hi hb
    rw [List.take_of_length_le (by omega)] at hb
    refine Ev.step (f := fun _ => some (mayR l fr)) (fun k => ?_) (Ev.now _)
    simp only [fill_may.l0]
    rw [if_neg (by omega)]
    exact may_end l fr hb
  | succ r ih =>
    intro i hi hb
    by_cases hc : badTab l[i] = true
    · have h2 := (bad_iff _).1 hc
      have e : mayR l fr = false := by
        unfold mayR
        rw [List.any_eq_true.2 ⟨l[i], List.getElem_mem _, hc⟩]; rfl
      rw [e]
      refine Ev.step (f := fun _ => some false) (fun k => ?_) (Ev.now _)
      simp only [fill_may.l0]
      rw [if_pos (by omega), if_pos (by omega), if_pos (by omega), rd_nat l (by omega), if_pos h2.1, if_pos h2.2]
    · refine Ev.step (fun k => ?_) (ih (i + 1) (by omega) (by rw [any_snoc (by omega), hb]; simpa using hc))
      simp only [fill_may.l0]
      rw [if_pos (by omega), if_pos (by omega), if_pos (by omega), rd_nat l (by omega), w1 (by omega)]
      by_cases h4 : l[i].f0 = 4
      · rw [if_pos h4, if_neg (fun h => hc ((bad_iff _).2 ⟨h4, h⟩))]
      · rw [if_neg h4]
theorem pmay_ev (l : List S46) (fr : Int) (hlen : l.length ≤ 100000) : Ev (fun k => fill_may.f k l fr) (mayR l fr) := pmay_l0 l fr hlen l.length 0 (by omega) rfl
theorem rmay_l0 (l : List S46) (fr : Int) (hlen : l.length ≤ 100000) : ∀ (r i : Nat), i + r = l.length → (l.take i).any badTab = false → Ev (fun k => stickfulref14_May.l0 k l fr (i : Int)) (mayR l fr) := by
  intro r
  induction r with
  | zero =>
    intro i hi hb
    rw [List.take_of_length_le (by omega)] at hb
    refine Ev.step (f := fun _ => some (mayR l fr)) (fun k => ?_) (Ev.now _)
    simp only [stickfulref14_May.l0]
    rw [if_neg (by omega)]
    exact may_end l fr hb
  | succ r ih =>
    intro i hi hb
    by_cases hc : badTab l[i] = true
    · have h2 := (bad_iff _).1 hc
      have e : mayR l fr = false := by
        unfold mayR
        rw [List.any_eq_true.2 ⟨l[i], List.getElem_mem _, hc⟩]; rfl
      rw [e]
      refine Ev.step (f := fun _ => some false) (fun k => ?_) (Ev.now _)
      simp only [stickfulref14_May.l0]
      rw [if_pos (by omega), if_pos (by omega), rd_nat l (by omega), if_pos h2.1, if_pos h2.2]
    · refine Ev.step (fun k => ?_) (ih (i + 1) (by omega) (by rw [any_snoc (by omega), hb]; simpa using hc))
      simp only [stickfulref14_May.l0]
      rw [if_pos (by omega), if_pos (by omega), rd_nat l (by omega), w1 (by omega)]
      by_cases h4 : l[i].f0 = 4
      · rw [if_pos h4, if_neg (fun h => hc ((bad_iff _).2 ⟨h4, h⟩))]
      · rw [if_neg h4]
theorem rmay_ev (l : List S46) (fr : Int) (hlen : l.length ≤ 100000) : Ev (fun k => stickfulref14_May.f k l fr) (mayR l fr) := rmay_l0 l fr hlen l.length 0 (by omega) rfl
/-- The last end from a place on, and whether it is forced. -/
def last1 (l : List S46) : Nat → Nat → Int × Bool
  | 0, i => ((i : Int), true)
  | r + 1, i => if (rd_T46 l (i : Int)).f0 = 8 then last1 l r (i + 1) else ((i : Int), true)
def last0 (l : List S46) : Nat → Nat → Int × Bool
  | 0, _ => ((l.length : Int), false)
  | r + 1, i => if (rd_T46 l (i : Int)).f0 = 5 then last1 l r (i + 1) else last0 l r (i + 1)
def lastR (l : List S46) (fr : Nat) : Int × Bool := last0 l (l.length - fr) fr
theorem last1_le (l : List S46) : ∀ (r i : Nat), i + r = l.length → (i : Int) ≤ (last1 l r i).1 ∧ (last1 l r i).1 ≤ (l.length : Int)
  | 0, i, h => by simp only [last1]; omega
  | r + 1, i, h => by
    simp only [last1]
    split
    · have := last1_le l r (i + 1) (by omega)
      omega
    · simp only; omega
theorem last0_le (l : List S46) : ∀ (r i : Nat), i + r = l.length → (last0 l r i).1 ≤ (l.length : Int) ∧ (0 < r → (i : Int) < (last0 l r i).1) ∧ ((last0 l r i).2 = false → (last0 l r i).1 = (l.length : Int)) ∧ (r = 0 → (last0 l r i).2 = false)
  | 0, i, h => by simp only [last0]; simp
  | r + 1, i, h => by
    simp only [last0]
    split
    · have := last1_le l r (i + 1) (by omega)
      have e : ∀ (r i : Nat), (last1 l r i).2 = true := by
        intro r
        induction r with
        | zero => intro i; rfl
        | succ r ih => intro i; simp only [last1]; split <;> first | exact ih _ | rfl
      refine ⟨this.2, fun _ => by omega, fun hf => (by rw [e] at hf; cases hf), fun hr => (by omega)⟩
    · obtain ⟨g1, g2, g3, g4⟩ := last0_le l r (i + 1) (by omega)
      refine ⟨g1, fun _ => ?_, g3, fun hr => by omega⟩
      cases r with
      | zero => simp only [last0]; omega
      | succ r => have := g2 (by omega); omega
theorem plast1 (l : List S46) (hlen : l.length ≤ 100000) : ∀ (r i : Nat), i + r = l.length → Ev (fun k => fill_last.l1 k l (i : Int)) (last1 l r i) := by
  intro r
  induction r with
  | zero =>
    intro i hi
    refine Ev.step (f := fun _ => some ((i : Int), true)) (fun k => ?_) (Ev.now _)
    simp only [fill_last.l1]
    rw [if_neg (by omega)]
  | succ r ih =>
    intro i hi
    simp only [last1]
    have e : ∀ k, fill_last.l1 (k + 1) l (i : Int) = if (rd_T46 l (i : Int)).f0 = 8 then fill_last.l1 k l ((i + 1 : Nat) : Int) else some ((i : Int), true) := by
      intro k
      simp only [fill_last.l1]
      rw [if_pos (by omega), if_pos (by omega), w1 (by omega)]
    refine Ev.step e ?_
    by_cases h8 : (rd_T46 l (i : Int)).f0 = 8
    · rw [if_pos h8]; exact Ev.congr (fun k => if_pos h8) (ih (i + 1) (by omega))
    · rw [if_neg h8]; exact Ev.congr (fun k => if_neg h8) (Ev.now _)
theorem plast0 (l : List S46) (hlen : l.length ≤ 100000) : ∀ (r i : Nat), i + r = l.length → Ev (fun k => fill_last.l0 k l (i : Int)) (last0 l r i) := by
  intro r
  induction r with
  | zero =>
    intro i hi
    refine Ev.step (f := fun _ => some ((l.length : Int), false)) (fun k => ?_) (Ev.now _)
    simp only [fill_last.l0]
    rw [if_neg (by omega)]
  | succ r ih =>
    intro i hi
    simp only [last0]
    have e : ∀ k, fill_last.l0 (k + 1) l (i : Int) = if (rd_T46 l (i : Int)).f0 = 5 then fill_last.l1 k l ((i + 1 : Nat) : Int) else fill_last.l0 k l ((i + 1 : Nat) : Int) := by
      intro k
      simp only [fill_last.l0]
      rw [if_pos (by omega), if_pos (by omega), w1 (by omega)]
    refine Ev.step e ?_
    by_cases h5 : (rd_T46 l (i : Int)).f0 = 5
    · rw [if_pos h5]; exact Ev.congr (fun k => if_pos h5) (plast1 l hlen r (i + 1) (by omega))
    · rw [if_neg h5]; exact Ev.congr (fun k => if_neg h5) (ih (i + 1) (by omega))
theorem plast_ev (l : List S46) (hlen : l.length ≤ 100000) (fr : Nat) (h : fr ≤ l.length) : Ev (fun k => fill_last.f k l (fr : Int)) (lastR l fr) := plast0 l hlen (l.length - fr) fr (by omega)
theorem rlast1 (l : List S46) (hlen : l.length ≤ 100000) : ∀ (r i : Nat), i + r = l.length → Ev (fun k => stickfulref14_Last.l1 k l (i : Int)) (last1 l r i) := by
  intro r
  induction r with
  | zero =>
    intro i hi
    refine Ev.step (f := fun _ => some ((i : Int), true)) (fun k => ?_) (Ev.now _)
    simp only [stickfulref14_Last.l1]
    rw [if_neg (by omega)]
  | succ r ih =>
    intro i hi
    simp only [last1]
    have e : ∀ k, stickfulref14_Last.l1 (k + 1) l (i : Int) = if (rd_T46 l (i : Int)).f0 = 8 then stickfulref14_Last.l1 k l ((i + 1 : Nat) : Int) else some ((i : Int), true) := by
      intro k
      simp only [stickfulref14_Last.l1]
      rw [if_pos (by omega), if_pos (by omega), w1 (by omega)]
    refine Ev.step e ?_
    by_cases h8 : (rd_T46 l (i : Int)).f0 = 8
    · rw [if_pos h8]; exact Ev.congr (fun k => if_pos h8) (ih (i + 1) (by omega))
    · rw [if_neg h8]; exact Ev.congr (fun k => if_neg h8) (Ev.now _)
theorem rlast0 (l : List S46) (hlen : l.length ≤ 100000) : ∀ (r i : Nat), i + r = l.length → Ev (fun k => stickfulref14_Last.l0 k l (i : Int)) (last0 l r i) := by
  intro r
  induction r with
  | zero =>
    intro i hi
    have hil : i = l.length := by omega
    refine Ev.step (f := fun k => stickfulref14_Last.j1 k l (i : Int)) (fun k => ?_) (Ev.step (f := fun _ => some ((l.length : Int), false)) (fun k => ?_) (Ev.now _))
    · simp only [stickfulref14_Last.l0]
      rw [if_neg (by omega)]
    · simp only [stickfulref14_Last.j1]
      rw [if_pos (by omega), hil]
  | succ r ih =>
    intro i hi
    simp only [last0]
    by_cases h5 : (rd_T46 l (i : Int)).f0 = 5
    · rw [if_pos h5]
      refine Ev.step (f := fun k => stickfulref14_Last.j1 k l (i : Int)) (fun k => ?_) (Ev.step (f := fun k => stickfulref14_Last.l1 k l ((i + 1 : Nat) : Int)) (fun k => ?_) (rlast1 l hlen r (i + 1) (by omega)))
      · simp only [stickfulref14_Last.l0]
        rw [if_pos (by omega), if_pos (by omega), if_pos h5]
      · simp only [stickfulref14_Last.j1]
        rw [if_neg (by omega), w1 (by omega)]
    · rw [if_neg h5]
      refine Ev.step (fun k => ?_) (ih (i + 1) (by omega))
      simp only [stickfulref14_Last.l0]
      rw [if_pos (by omega), if_pos (by omega), if_neg h5, w1 (by omega)]
theorem rlast_ev (l : List S46) (hlen : l.length ≤ 100000) (fr : Nat) (h : fr ≤ l.length) : Ev (fun k => stickfulref14_Last.f k l (fr : Int)) (lastR l fr) := rlast0 l hlen (l.length - fr) fr (by omega)
/-- The ends of a kind, from a place on. -/
def endsR (l : List S46) (fr te : Int) (is : S46 → Bool) : Nat → Int → List Int
  | 0, _ => []
  | n + 1, p => if p < te then (if is (rd_T46 l p) = true then (if bl (segL l fr p) = true then endsR l fr te is n (p + 1) else p :: endsR l fr te is n (p + 1)) else endsR l fr te is n (p + 1)) else []
theorem endsO_ev (l : List S46) (hlen : l.length ≤ 100000) (fr te : Int) (is : S46 → Bool) : ∀ (n : Nat) (p : Int), Ev (fun k => endsO k l fr te is n p) (endsR l fr te is n p)
  | 0, _ => Ev.now _
  | n + 1, p => by
    have ih := endsO_ev l hlen fr te is n (p + 1)
    simp only [endsO, endsR]
    by_cases hp : p < te
    · rw [if_pos hp]
      refine Ev.congr (fun k => if_pos hp) ?_
      by_cases hi : is (rd_T46 l p) = true
      · rw [if_pos hi]
        refine Ev.congr (fun k => if_pos hi) ?_
        refine Ev.bind (tblank_ev (segL l fr p) (Nat.le_trans (seg_len l fr p) hlen)) (Ev.bind ih ?_)
        show Ev _ (if bl (segL l fr p) = true then _ else _)
        by_cases hb : bl (segL l fr p) = true
        · rw [if_pos hb]; exact Ev.congr (fun k => congrArg some (if_pos hb)) (Ev.now _)
        · rw [if_neg hb]; exact Ev.congr (fun k => congrArg some (if_neg hb)) (Ev.now _)
      · rw [if_neg hi]
        exact Ev.congr (fun k => if_neg hi) ih
    · rw [if_neg hp]
      exact Ev.congr (fun k => if_neg hp) (Ev.now _)
def EndsR (l : List S46) (fr : Nat) : List Int × List Int × Int :=
  (endsR l (fr : Int) (lastR l fr).1 (fun c => c.f4) (l.length + 1) ((fr : Int) + 1) ++ [(lastR l fr).1], endsR l (fr : Int) (lastR l fr).1 (fun c => c.f5) (l.length + 1) ((fr : Int) + 1), 0)
theorem pends_ev (l : List S46) (hlen : l.length ≤ 100000) (fr : Nat) (hfr : fr ≤ l.length) : Ev (fun k => fill_Ends.f k l (fr : Int)) (if mayR l (fr : Int) = true then EndsR l fr else ([], [], 2)) := by
  unfold fill_Ends.f
  refine Ev.bind (pmay_ev l _ hlen) ?_
  by_cases hm : mayR l (fr : Int) = true
  · rw [if_pos hm]
    refine Ev.congr (fun k => if_pos hm) (Ev.bind (plast_ev l hlen fr hfr) ?_)
    have hl := last0_le l (l.length - fr) fr (by omega)
    refine Ev.congr (fun k => if_pos ⟨by omega, by omega, hl.1, by omega⟩) ?_
    exact Ev.bind (endsO_ev l hlen _ _ _ _ _) (Ev.bind (endsO_ev l hlen _ _ _ _ _) (Ev.now _))
  · rw [if_neg hm]
    exact Ev.congr (fun k => if_neg hm) (Ev.now _)
theorem rends_l0 (l : List S46) (hlen : l.length ≤ 100000) (fr : Nat) (te : Int) (hte : te ≤ (l.length : Int)) : ∀ (n i : Nat) (a b : List Int), (te : Int) - (i : Int) < n → fr < i → i ≤ l.length + 1 → a.length ≤ i → b.length ≤ i →
    Ev (fun k => stickfulref14_Ends.l0 k l (fr : Int) te a b (i : Int)) (a ++ (endsR l (fr : Int) te (fun c => c.f4) n (i : Int)) ++ [te], b ++ endsR l (fr : Int) te (fun c => c.f5) n (i : Int), 0) := by
  intro n
  induction n with
  | zero =>
    intro i a b h1 h2 h3 h4 h5
    simp only [endsR, List.append_nil]
    refine Ev.step (f := fun _ => some (a ++ [te], b, 0)) (fun k => ?_) (Ev.now _)
    simp only [stickfulref14_Ends.l0]
    rw [if_neg (by omega), if_pos (by omega)]
  | succ n ih =>
    intro i a b h1 h2 h3 h4 h5
    simp only [endsR]
    by_cases hp : (i : Int) < te
    · rw [if_pos hp, if_pos hp]
      have e1 : ((i : Int) + 1) = ((i + 1 : Nat) : Int) := by omega
      have hw : wrap64 ((i : Int) + 1) = ((i + 1 : Nat) : Int) := w1 (by omega)
      rw [e1]
      have e : ∀ k, stickfulref14_Ends.l0 (k + 1) l (fr : Int) te a b (i : Int) = (stickfulref13_Blank.f k (segL l (fr : Int) (i : Int))).bind fun t => if t = true then stickfulref14_Ends.l0 k l (fr : Int) te a b ((i + 1 : Nat) : Int) else (if (rd_T46 l (i : Int)).f4 = true then (if (rd_T46 l (i : Int)).f5 = true then stickfulref14_Ends.l0 k l (fr : Int) te (a ++ [(i : Int)]) (b ++ [(i : Int)]) ((i + 1 : Nat) : Int) else stickfulref14_Ends.l0 k l (fr : Int) te (a ++ [(i : Int)]) b ((i + 1 : Nat) : Int)) else (if (rd_T46 l (i : Int)).f5 = true then stickfulref14_Ends.l0 k l (fr : Int) te a (b ++ [(i : Int)]) ((i + 1 : Nat) : Int) else stickfulref14_Ends.l0 k l (fr : Int) te a b ((i + 1 : Nat) : Int))) := by
        intro k
        simp only [stickfulref14_Ends.l0]
        rw [if_pos hp, if_pos (by omega), if_pos (by omega), if_pos (by omega)]
        have hb0 : b.length < 17592186044416 := by omega
        have ha0 : a.length < 17592186044416 := by omega
        simp only [hw, hb0, ha0, if_true, show (0 : Int) ≤ (i : Int) by omega, show (i : Int) < (l.length : Int) by omega, Option.bind_some]
        rfl
      refine Ev.step e (Ev.bind (rblank_ev (segL l (fr : Int) (i : Int)) (Nat.le_trans (seg_len l _ _) hlen)) ?_)
      show Ev _ (a ++ (if (rd_T46 l (i : Int)).f4 = true then (if bl (segL l (fr : Int) (i : Int)) = true then _ else _) else _) ++ [te], b ++ (if (rd_T46 l (i : Int)).f5 = true then (if bl (segL l (fr : Int) (i : Int)) = true then _ else _) else _), 0)
      have hi2 : i + 1 ≤ l.length + 1 := by omega
      by_cases hb : bl (segL l (fr : Int) (i : Int)) = true
      · rw [if_pos hb, if_pos hb, ite_self, ite_self]
        exact Ev.congr (fun k => if_pos hb) (ih (i + 1) a b (by omega) (by omega) hi2 (by omega) (by omega))
      · rw [if_neg hb, if_neg hb]
        refine Ev.congr (fun k => if_neg hb) ?_
        by_cases h4 : (rd_T46 l (i : Int)).f4 = true
        · rw [if_pos h4]
          refine Ev.congr (fun k => if_pos h4) ?_
          by_cases h5' : (rd_T46 l (i : Int)).f5 = true
          · rw [if_pos h5']
            have := ih (i + 1) (a ++ [(i : Int)]) (b ++ [(i : Int)]) (by omega) (by omega) hi2 (by simp; omega) (by simp; omega)
            rw [List.append_assoc a, List.append_assoc b] at this
            exact Ev.congr (fun k => if_pos h5') this
          · rw [if_neg h5']
            have := ih (i + 1) (a ++ [(i : Int)]) b (by omega) (by omega) hi2 (by simp; omega) (by omega)
            rw [List.append_assoc a] at this
            exact Ev.congr (fun k => if_neg h5') this
        · rw [if_neg h4]
          refine Ev.congr (fun k => if_neg h4) ?_
          by_cases h5' : (rd_T46 l (i : Int)).f5 = true
          · rw [if_pos h5']
            have := ih (i + 1) a (b ++ [(i : Int)]) (by omega) (by omega) hi2 (by omega) (by simp; omega)
            rw [List.append_assoc b] at this
            exact Ev.congr (fun k => if_pos h5') this
          · rw [if_neg h5']
            exact Ev.congr (fun k => if_neg h5') (ih (i + 1) a b (by omega) (by omega) hi2 (by omega) (by omega))
    · rw [if_neg hp, if_neg hp, List.append_nil, List.append_nil]
      refine Ev.step (f := fun _ => some (a ++ [te], b, 0)) (fun k => ?_) (Ev.now _)
      simp only [stickfulref14_Ends.l0]
      rw [if_neg hp, if_pos (by omega)]
theorem rends_ev (l : List S46) (hlen : l.length ≤ 100000) (fr : Nat) (hfr : fr ≤ l.length) : Ev (fun k => stickfulref14_Ends.f k l (fr : Int)) (if mayR l (fr : Int) = true then EndsR l fr else ([], [], 2)) := by
  unfold stickfulref14_Ends.f
  refine Ev.bind (rmay_ev l _ hlen) ?_
  by_cases hm : mayR l (fr : Int) = true
  · rw [if_pos hm]
    refine Ev.congr (fun k => if_pos hm) (Ev.bind (rlast_ev l hlen fr hfr) ?_)
    have hl := last0_le l (l.length - fr) fr (by omega)
    have hl1 : (lastR l fr).1 ≤ (l.length : Int) := hl.1
    have := rends_l0 l hlen fr (lastR l fr).1 hl1 (l.length + 1) (fr + 1) [] [] (by omega) (by omega) (by omega) (by simp) (by simp)
    rw [List.nil_append, List.nil_append] at this
    rw [w1 (by omega)]
    exact this
  · rw [if_neg hm]
    exact Ev.congr (fun k => if_neg hm) (Ev.now _)
end Go.Proofs.Ytdmlnkgpjileaaa.PureF
namespace Go.Proofs.Ytdmlnkgpjileaaa.PureF
set_option linter.unusedVariables false
set_option linter.unusedSimpArgs false
open Go.RowKit Go.Proofs.YtdmlnkgpjileaaaW.PrintWords Go.Proofs.YtdmlnkgpjileaaaW.PrintLast Go.Proofs.YtdmlnkgpjileaaaW.PrintMore Go.Proofs.Ytdmlnkgpjileaaa.Hand Go.Proofs.Ytdmlnkgpjileaaa.HFirst
/-- Whether a line fits. -/
def fitR (l : List S46) (fr wd st p : Int) : Bool × Int := (decide ((endR ((rolesZ true (segL l fr p)).map unH) (segL l fr p) st).1 ≤ wd), (endR ((rolesZ true (segL l fr p)).map unH) (segL l fr p) st).2)
theorem fitO1_eq {l : List S46} (hlen : l.length ≤ 100000) (hl : ∀ c ∈ l, okC c) {fr wd st p : Int} (hst : in64 st) (h : 0 ≤ fr ∧ fr ≤ p ∧ p ≤ (l.length : Int)) : fitO1 l fr wd st p = some (fitR l fr wd st p) := by
  unfold fitO1
  rw [if_pos h, fits_eq (Nat.le_trans (seg_len l fr p) hlen) (fun c hc => hl c (seg_mem hc)) hst]
  rfl
theorem rfit_ev {l : List S46} (hlen : l.length ≤ 100000) (hl : ∀ c ∈ l, okC c) {fr wd st p : Int} (h : 0 ≤ fr ∧ fr ≤ p ∧ p ≤ (l.length : Int)) : Ev (fun k => stickfulref14_Fits.f k l fr p wd st) (if (fitR l fr wd st p).2 = 0 then fitR l fr wd st p else (false, (fitR l fr wd st p).2)) := by
  unfold stickfulref14_Fits.f
  refine Ev.congr (fun k => (if_pos h.1).trans ((if_pos h.2.1).trans (if_pos h.2.2))) ?_
  refine Ev.bind (rfits_ev (l := segL l fr p) (x := st) (Nat.le_trans (seg_len l fr p) hlen) (fun c hc => hl c (seg_mem hc))) ?_
  by_cases he : (fitR l fr wd st p).2 = 0
  · rw [if_pos he]; exact Ev.congr (fun k => if_pos he) (Ev.now _)
  · rw [if_neg he]; exact Ev.congr (fun k => if_neg he) (Ev.now _)
def reachR (f : Int → Bool × Int) : List Int → Bool → Int → Int × Bool × Int
  | [], _, p => (p, true, 0)
  | q :: qs, first, p => if (f q).2 = 0 then (if (f q).1 = true then reachR f qs false q else (if first = true then (q, false, 0) else (p, true, 0))) else (0, false, (f q).2)
theorem reachO_eq {F : Int → Option (Bool × Int)} {f : Int → Bool × Int} : ∀ (xs : List Int) (b : Bool) (p : Int), (∀ q ∈ xs, F q = some (f q)) → reachO F xs b p = some (reachR f xs b p)
  | [], _, _, _ => rfl
  | q :: qs, b, p, h => by
    simp only [reachO, reachR]
    rw [h q (List.mem_cons_self ..), Option.bind_some]
    by_cases h0 : (f q).2 = 0
    · rw [if_pos h0, if_pos h0]
      by_cases h1 : (f q).1 = true
      · rw [if_pos h1, if_pos h1]; exact reachO_eq qs false q (fun x hx => h x (List.mem_cons_of_mem _ hx))
      · rw [if_neg h1, if_neg h1]
        by_cases hb : b = true
        · rw [if_pos hb, if_pos hb]
        · rw [if_neg hb, if_neg hb]
    · rw [if_neg h0, if_neg h0]
/-- How many of some ends fit, one after the other. -/
def runR (f : Int → Bool × Int) : List Int → Nat → Int × Int
  | [], n => ((n : Int), 0)
  | q :: qs, n => if (f q).2 = 0 then (if (f q).1 = true then runR f qs (n + 1) else ((n : Int), 0)) else (0, (f q).2)
theorem run_l0 {l : List S46} (hlen : l.length ≤ 100000) (hl : ∀ c ∈ l, okC c) {fr wd st : Int} (xs : List Int) (hx : ∀ q ∈ xs, 0 ≤ fr ∧ fr ≤ q ∧ q ≤ (l.length : Int)) (hxl : xs.length ≤ 1000000) : ∀ (r i : Nat), i + r = xs.length →
    Ev (fun k => stickfulref14_run.l0 k l fr xs (i : Int) wd st) (runR (fitR l fr wd st) (xs.drop i) i) := by
  intro r
  induction r with
  | zero =>
    intro i hi
    rw [List.drop_of_length_le (by omega)]
    refine Ev.step (f := fun _ => some ((i : Int), 0)) (fun k => ?_) (Ev.now _)
    simp only [stickfulref14_run.l0]
    rw [if_neg (by omega)]
  | succ r ih =>
    intro i hi
    have hq := hx xs[i] (List.getElem_mem (by omega))
    rw [List.drop_eq_getElem_cons (by omega)]
    simp only [runR]
    have e : ∀ k, stickfulref14_run.l0 (k + 1) l fr xs (i : Int) wd st = (stickfulref14_Fits.f k l fr xs[i] wd st).bind fun bt => (if bt.2 = 0 then (if bt.1 = true then (stickfulref14_run.l0 k l fr xs ((i + 1 : Nat) : Int) wd st) else (some ((i : Int), 0))) else (some (0, bt.2))) := by
      intro k
      simp only [stickfulref14_run.l0]
      rw [if_pos (by omega), if_pos (by omega), rd_int xs (by omega), w1 (by omega)]
    refine Ev.step e (Ev.bind (rfit_ev hlen hl hq) ?_)
    by_cases h0 : (fitR l fr wd st xs[i]).2 = 0
    · rw [if_pos h0, if_pos h0]
      refine Ev.congr (fun k => if_pos h0) ?_
      by_cases h1 : (fitR l fr wd st xs[i]).1 = true
      · rw [if_pos h1]; exact Ev.congr (fun k => if_pos h1) (ih (i + 1) (by omega))
      · rw [if_neg h1]; exact Ev.congr (fun k => if_neg h1) (Ev.now _)
    · rw [if_neg h0, if_neg h0]
      exact Ev.congr (fun k => if_neg h0) (Ev.now _)
theorem reach_more (f : Int → Bool × Int) (L : List Int) : ∀ (xs : List Int) (n : Nat) (p : Int), L.drop (n + 1) = xs → n < L.length → rd L (n : Int) = p →
    ((runR f xs (n + 1)).2 ≠ 0 ∧ reachR f xs false p = (0, false, (runR f xs (n + 1)).2)) ∨ ((runR f xs (n + 1)).2 = 0 ∧ ∃ j : Nat, j < L.length ∧ (runR f xs (n + 1)).1 = ((j + 1 : Nat) : Int) ∧ reachR f xs false p = (rd L (j : Int), true, 0))
  | [], n, p, h, hn, hp => .inr ⟨rfl, n, hn, rfl, by rw [hp]; rfl⟩
  | q :: qs, n, p, h, hn, hp => by
    have hn1 : n + 1 < L.length := by
      rcases Nat.lt_or_ge (n + 1) L.length with h2 | h2
      · exact h2
      · rw [List.drop_of_length_le h2] at h; cases h
    rw [List.drop_eq_getElem_cons hn1] at h
    obtain ⟨h1, h2⟩ := List.cons.inj h
    simp only [runR, reachR]
    by_cases h0 : (f q).2 = 0
    · rw [if_pos h0, if_pos h0]
      by_cases hg : (f q).1 = true
      · rw [if_pos hg, if_pos hg]
        exact reach_more f L qs (n + 1) q h2 hn1 (by rw [rd_int L hn1]; exact h1)
      · rw [if_neg hg, if_neg hg, if_neg (by decide)]
        exact .inr ⟨rfl, n, hn, rfl, by rw [hp]⟩
    · rw [if_neg h0, if_neg h0]
      exact .inl ⟨h0, rfl⟩
theorem reach_run (f : Int → Bool × Int) {L : List Int} (hL : 0 < L.length) :
    ((runR f L 0).2 ≠ 0 ∧ reachR f L true 0 = (0, false, (runR f L 0).2)) ∨ ((runR f L 0).2 = 0 ∧ (runR f L 0).1 = 0 ∧ reachR f L true 0 = (rd L 0, false, 0)) ∨ ((runR f L 0).2 = 0 ∧ ∃ j : Nat, j < L.length ∧ (runR f L 0).1 = ((j + 1 : Nat) : Int) ∧ reachR f L true 0 = (rd L (j : Int), true, 0)) := by
  cases L with
  | nil => simp at hL
  | cons q qs =>
    simp only [runR, reachR]
    by_cases h0 : (f q).2 = 0
    · rw [if_pos h0, if_pos h0]
      by_cases hg : (f q).1 = true
      · rw [if_pos hg, if_pos hg]
        rcases reach_more f (q :: qs) qs 0 q rfl (by simp) rfl with h | ⟨h, j, h1, h2, h3⟩
        · exact .inl h
        · exact .inr (.inr ⟨h, j, h1, h2, h3⟩)
      · rw [if_neg hg, if_neg hg, if_pos trivial]
        exact .inr (.inl ⟨rfl, rfl, rfl⟩)
    · rw [if_neg h0, if_neg h0]
      exact .inl ⟨h0, rfl⟩
theorem ends_in (l : List S46) (fr te : Int) (is : S46 → Bool) : ∀ (n : Nat) (p : Int), ∀ q ∈ endsR l fr te is n p, p ≤ q ∧ q < te
  | 0, _, q, h => by cases h
  | n + 1, p, q, h => by
    have ih := ends_in l fr te is n (p + 1) q
    simp only [endsR] at h
    split at h
    · split at h
      · split at h
        · have := ih h; omega
        · rcases List.mem_cons.1 h with rfl | h
          · omega
          · have := ih h; omega
      · have := ih h; omega
    · cases h
theorem ends_len (l : List S46) (fr te : Int) (is : S46 → Bool) : ∀ (n : Nat) (p : Int), (endsR l fr te is n p).length ≤ n
  | 0, _ => Nat.le_refl _
  | n + 1, p => by
    have ih := ends_len l fr te is n (p + 1)
    simp only [endsR]
    split
    · split
      · split
        · omega
        · simp only [List.length_cons]; omega
      · omega
    · simp
theorem last_pos (l : List S46) {fr : Nat} (h : fr ≤ l.length) : (fr : Int) ≤ (lastR l fr).1 ∧ (lastR l fr).1 ≤ (l.length : Int) ∧ (fr < l.length → (fr : Int) < (lastR l fr).1) ∧ (fr = l.length → lastR l fr = ((l.length : Int), false)) := by
  obtain ⟨g1, g2, g3, g4⟩ := last0_le l (l.length - fr) fr (by omega)
  refine ⟨?_, g1, fun h2 => g2 (by omega), fun h2 => ?_⟩
  · by_cases h2 : fr < l.length
    · have := g2 (by omega)
      unfold lastR
      omega
    · have : l.length - fr = 0 := by omega
      unfold lastR
      rw [this]
      simp only [last0]
      omega
  · unfold lastR
    rw [h2, Nat.sub_self]
    rfl
theorem E1_in (l : List S46) {fr : Nat} (h : fr ≤ l.length) : ∀ q ∈ (EndsR l fr).1, (fr : Int) ≤ q ∧ q ≤ (l.length : Int) ∧ (fr < l.length → (fr : Int) < q) := by
  obtain ⟨p1, p2, p3, _⟩ := last_pos l h
  intro q hq
  unfold EndsR at hq
  simp only at hq
  rcases List.mem_append.1 hq with hq | hq
  · have := ends_in l _ _ _ _ _ q hq
    exact ⟨by omega, by omega, fun _ => by omega⟩
  · rw [List.mem_singleton] at hq
    rw [hq]
    exact ⟨p1, p2, p3⟩
theorem E2_in (l : List S46) {fr : Nat} (h : fr ≤ l.length) : ∀ q ∈ (EndsR l fr).2.1, (fr : Int) < q ∧ q ≤ (l.length : Int) ∧ fr < l.length := by
  obtain ⟨p1, p2, p3, p4⟩ := last_pos l h
  intro q hq
  have := ends_in l _ _ _ _ _ q hq
  refine ⟨by omega, by omega, ?_⟩
  rcases Nat.lt_or_ge fr l.length with h2 | h2
  · exact h2
  · have e := p4 (by omega)
    rw [e] at this
    simp only at this
    omega
theorem E1_pos (l : List S46) (fr : Nat) : 0 < (EndsR l fr).1.length ∧ (EndsR l fr).1.length ≤ l.length + 2 := by
  have := ends_len l (fr : Int) (lastR l fr).1 (fun c => c.f4) (l.length + 1) ((fr : Int) + 1)
  unfold EndsR
  simp only [List.length_append, List.length_cons, List.length_nil]
  omega
theorem E2_len (l : List S46) (fr : Nat) : (EndsR l fr).2.1.length ≤ l.length + 1 := ends_len l _ _ _ _ _
theorem near_in {E : List Int} {p : Int} : ∀ q ∈ nearL E p, q ∈ E ∧ q < p := fun q h => by
  unfold nearL at h
  have := List.mem_filter.1 h
  exact ⟨this.1, by simpa using this.2⟩
theorem near_len (E : List Int) (p : Int) : (nearL E p).length ≤ E.length := by unfold nearL; exact List.length_filter_le _ _
/-- What one line's end is, or the error. -/
def toR (l : List S46) (fr : Nat) (wd st : Int) : Int × Int :=
  if (reachR (fitR l fr wd st) (EndsR l fr).1 true 0).2.2 = 0 ∧ (reachR (fitR l fr wd st) (EndsR l fr).1 true 0).2.1 = false ∧ 0 < (nearL (EndsR l fr).2.1 (reachR (fitR l fr wd st) (EndsR l fr).1 true 0).1).length then
    ((reachR (fitR l fr wd st) (nearL (EndsR l fr).2.1 (reachR (fitR l fr wd st) (EndsR l fr).1 true 0).1) true 0).1, (reachR (fitR l fr wd st) (nearL (EndsR l fr).2.1 (reachR (fitR l fr wd st) (EndsR l fr).1 true 0).1) true 0).2.2)
  else ((reachR (fitR l fr wd st) (EndsR l fr).1 true 0).1, (reachR (fitR l fr wd st) (EndsR l fr).1 true 0).2.2)
def oneR (l : List S46) (fr : Nat) (wd st : Int) : Int × Int × Bool × Int :=
  if mayR l (fr : Int) = true then (if wd < 0 then (0, 0, false, 2) else (if (toR l fr wd st).2 = 0 then ((fr : Int), (toR l fr wd st).1, ((lastR l fr).2 && ((toR l fr wd st).1 == (lastR l fr).1)), 0) else (0, 0, false, (toR l fr wd st).2))) else (0, 0, false, 2)
theorem pone_ev {l : List S46} (hlen : l.length ≤ 100000) (hl : ∀ c ∈ l, okC c) {fr : Nat} (hfr : fr ≤ l.length) {wd st : Int} (hst : in64 st) : Ev (fun k => fill_One.f k l (fr : Int) wd st) (oneR l fr wd st) := by
  unfold fill_One.f oneR
  refine Ev.bind (pends_ev l hlen fr hfr) ?_
  by_cases hm : mayR l (fr : Int) = true
  · rw [if_pos hm, if_pos hm]
    refine Ev.congr (fun k => if_pos rfl) ?_
    by_cases hw : wd < 0
    · rw [if_pos hw]; exact Ev.congr (fun k => if_pos hw) (Ev.now _)
    · rw [if_neg hw]
      have hl2 := E2_len l fr
      refine Ev.congr (fun k => (if_neg hw).trans (if_pos (by omega))) ?_
      have hF : ∀ q, (fr : Int) ≤ q ∧ q ≤ (l.length : Int) → fitO1 l (fr : Int) wd st q = some (fitR l (fr : Int) wd st q) := fun q h => fitO1_eq hlen hl hst ⟨by omega, h.1, h.2⟩
      have r1 := reachO_eq (EndsR l fr).1 true 0 (fun q hq => hF q (by have := E1_in l hfr q hq; omega))
      rw [r1]
      refine Ev.bind (a := reachR (fitR l (fr : Int) wd st) (EndsR l fr).1 true 0) (Ev.now _) ?_
      refine Ev.bind (a := toR l fr wd st) (Ev.congr (fun k => ?_) (Ev.now _)) ?_
      · unfold toR
        by_cases hc : (reachR (fitR l (fr : Int) wd st) (EndsR l fr).1 true 0).2.2 = 0 ∧ (reachR (fitR l (fr : Int) wd st) (EndsR l fr).1 true 0).2.1 = false ∧ 0 < (nearL (EndsR l fr).2.1 (reachR (fitR l (fr : Int) wd st) (EndsR l fr).1 true 0).1).length
        · rw [if_pos hc, if_pos hc, reachO_eq (nearL (EndsR l fr).2.1 (reachR (fitR l (fr : Int) wd st) (EndsR l fr).1 true 0).1) true 0 (fun q hq => hF q (by have := E2_in l hfr q (near_in q hq).1; omega))]
          rfl
        · rw [if_neg hc, if_neg hc]
      · by_cases hz : (toR l fr wd st).2 = 0
        · rw [if_pos hz]
          refine Ev.congr (fun k => if_pos hz) ?_
          exact Ev.bind (plast_ev l hlen fr hfr) (Ev.now _)
        · rw [if_neg hz]
          exact Ev.congr (fun k => if_neg hz) (Ev.now _)
  · rw [if_neg hm, if_neg hm]
    exact Ev.congr (fun k => if_neg (by decide)) (Ev.now _)
theorem ahead_l0 (xs : List Int) (p : Int) (hx : xs.length ≤ 1000000) : ∀ (r i : Nat), i + r = xs.length → Ev (fun k => stickfulref14_ahead.l0 k xs p (nearL (xs.take i) p) (i : Int)) (nearL xs p) := by
  intro r
  induction r with
  | zero =>
    intro i hi
    rw [List.take_of_length_le (by omega)]
    refine Ev.step (f := fun _ => some (nearL xs p)) (fun k => ?_) (Ev.now _)
    simp only [stickfulref14_ahead.l0]
    rw [if_neg (by omega)]
  | succ r ih =>
    intro i hi
    have hs := nearL_snoc xs p i (by omega)
    have hn := near_len (xs.take i) p
    rw [List.length_take] at hn
    have := ih (i + 1) (by omega)
    by_cases hq : xs[i] < p
    · rw [if_pos hq] at hs
      rw [hs] at this
      refine Ev.step (fun k => ?_) this
      simp only [stickfulref14_ahead.l0]
      rw [if_pos (by omega), if_pos (by omega), rd_int xs (by omega), if_pos hq, if_pos (by omega), w1 (by omega)]
    · rw [if_neg hq] at hs
      rw [hs] at this
      refine Ev.step (fun k => ?_) this
      simp only [stickfulref14_ahead.l0]
      rw [if_pos (by omega), if_pos (by omega), rd_int xs (by omega), if_neg hq, w1 (by omega)]
theorem mx_sub {j : Nat} (hj : j ≤ 1000000) : mx (wrap64 (((j + 1 : Nat) : Int) - 1)) 0 = (j : Int) := by
  rw [ws (by omega) (by omega)]
  unfold mx
  split <;> omega
theorem mx_sub0 : mx (wrap64 ((0 : Int) - 1)) 0 = 0 := by
  rw [ws (by omega) (by omega)]
  unfold mx
  rw [if_pos (by omega)]
theorem rtail_ev {l : List S46} (hlen : l.length ≤ 100000) {fr : Nat} (hfr : fr ≤ l.length) (z : Int) : Ev (fun k => (stickfulref14_Last.f k l (fr : Int)).bind fun bt => (if bt.2 = true then (some ((fr : Int), z, (z == bt.1), (0 : Int))) else (some ((fr : Int), z, false, 0)))) ((fr : Int), z, ((lastR l fr).2 && (z == (lastR l fr).1)), 0) := by
  refine Ev.bind (rlast_ev l hlen fr hfr) ?_
  cases h : (lastR l fr).2 with
  | true => rw [Bool.true_and]; exact Ev.congr (fun k => if_pos rfl) (Ev.now _)
  | false => rw [Bool.false_and]; exact Ev.congr (fun k => if_neg (by decide)) (Ev.now _)
theorem rone_ev {l : List S46} (hlen : l.length ≤ 100000) (hl : ∀ c ∈ l, okC c) {fr : Nat} (hfr : fr ≤ l.length) {wd st : Int} : Ev (fun k => stickfulref14_One.f k l (fr : Int) wd st) (oneR l fr wd st) := by
  unfold stickfulref14_One.f oneR
  refine Ev.bind (rends_ev l hlen fr hfr) ?_
  have jt : ∀ a b, Ev (fun k => stickfulref14_One.j0 k l (fr : Int) a b true wd st) ((0, 0, false, 2) : Int × Int × Bool × Int) := fun a b => Ev.step (f := fun _ => some (0, 0, false, 2)) (fun k => by simp only [stickfulref14_One.j0]; rw [if_pos trivial]) (Ev.now _)
  by_cases hm : mayR l (fr : Int) = true
  · rw [if_pos hm, if_pos hm]
    refine Ev.congr (fun k => if_pos rfl) ?_
    by_cases hw : wd < 0
    · rw [if_pos hw, decide_eq_true hw]; exact jt _ _
    · rw [if_neg hw, decide_eq_false hw]
      have hl1 := E1_pos l fr
      have hl2 := E2_len l fr
      have hrun : ∀ (xs : List Int), (∀ q ∈ xs, (fr : Int) ≤ q ∧ q ≤ (l.length : Int)) → xs.length ≤ 1000000 → Ev (fun k => stickfulref14_run.f k l (fr : Int) xs wd st) (runR (fitR l (fr : Int) wd st) xs 0) := fun xs hx hxl => run_l0 hlen hl xs (fun q hq => by have := hx q hq; omega) hxl xs.length 0 (by omega)
      have hR1 := hrun (EndsR l fr).1 (fun q hq => by have := E1_in l hfr q hq; omega) (by omega)
      have hne : ∀ k, stickfulref14_One.j0 (k + 1) l (fr : Int) (EndsR l fr).1 (EndsR l fr).2.1 false wd st = (stickfulref14_run.f k l (fr : Int) (EndsR l fr).1 wd st).bind fun bt377 => (if bt377.2 = 0 then (if 0 ≤ (mx (wrap64 (bt377.1 - 1)) 0) then (if (mx (wrap64 (bt377.1 - 1)) 0) < ((EndsR l fr).1.length : Int) then (if 0 < ((EndsR l fr).1.length : Int) then ((stickfulref14_ahead.f k (EndsR l fr).2.1 (rd (EndsR l fr).1 0)).bind fun t381 => (if bt377.1 = 0 then (stickfulref14_One.j1 k l (fr : Int) (rd (EndsR l fr).1 (mx (wrap64 (bt377.1 - 1)) 0)) t381 (decide ((t381.length : Int) > 0)) wd st) else (stickfulref14_One.j1 k l (fr : Int) (rd (EndsR l fr).1 (mx (wrap64 (bt377.1 - 1)) 0)) t381 false wd st))) else (none)) else (none)) else (none)) else (some (0, 0, false, bt377.2))) := by
        intro k
        simp only [stickfulref14_One.j0]
        rw [if_neg (by decide)]
      refine Ev.step hne (Ev.bind hR1 ?_)
      have hah : Ev (fun k => stickfulref14_ahead.f k (EndsR l fr).2.1 (rd (EndsR l fr).1 0)) (nearL (EndsR l fr).2.1 (rd (EndsR l fr).1 0)) := ahead_l0 _ _ (by omega) (EndsR l fr).2.1.length 0 (by omega)
      rcases reach_run (fitR l (fr : Int) wd st) hl1.1 with ⟨g1, g2⟩ | ⟨g1, g2, g3⟩ | ⟨g1, j, g2, g3, g4⟩
      · have et : toR l fr wd st = (0, (runR (fitR l (fr : Int) wd st) (EndsR l fr).1 0).2) := by
          unfold toR
          rw [g2, if_neg (fun h => g1 h.1)]
        rw [et, if_neg g1]
        exact Ev.congr (fun k => if_neg g1) (Ev.now _)
      · refine Ev.congr (fun k => if_pos g1) ?_
        rw [g2, mx_sub0]
        refine Ev.congr (fun k => (if_pos (by omega)).trans ((if_pos (by omega)).trans (if_pos (by omega)))) ?_
        refine Ev.bind hah ?_
        refine Ev.congr (fun k => if_pos rfl) ?_
        have hnl := near_len (EndsR l fr).2.1 (rd (EndsR l fr).1 0)
        by_cases hnp : 0 < (nearL (EndsR l fr).2.1 (rd (EndsR l fr).1 0)).length
        · have et : toR l fr wd st = ((reachR (fitR l (fr : Int) wd st) (nearL (EndsR l fr).2.1 (rd (EndsR l fr).1 0)) true 0).1, (reachR (fitR l (fr : Int) wd st) (nearL (EndsR l fr).2.1 (rd (EndsR l fr).1 0)) true 0).2.2) := by
            unfold toR
            rw [g3, if_pos ⟨rfl, rfl, hnp⟩]
          rw [et, decide_eq_true (show ((nearL (EndsR l fr).2.1 (rd (EndsR l fr).1 0)).length : Int) > 0 by omega)]
          have hR2 := hrun (nearL (EndsR l fr).2.1 (rd (EndsR l fr).1 0)) (fun q hq => by have := E2_in l hfr q (near_in q hq).1; omega) (by omega)
          refine Ev.step (f := fun k => (stickfulref14_run.f k l (fr : Int) (nearL (EndsR l fr).2.1 (rd (EndsR l fr).1 0)) wd st).bind fun bt384 => (if bt384.2 = 0 then (if 0 ≤ (mx (wrap64 (bt384.1 - 1)) 0) then (if (mx (wrap64 (bt384.1 - 1)) 0) < ((nearL (EndsR l fr).2.1 (rd (EndsR l fr).1 0)).length : Int) then ((stickfulref14_Last.f k l (fr : Int)).bind fun bt387 => (if bt387.2 = true then (some ((fr : Int), rd (nearL (EndsR l fr).2.1 (rd (EndsR l fr).1 0)) (mx (wrap64 (bt384.1 - 1)) 0), ((rd (nearL (EndsR l fr).2.1 (rd (EndsR l fr).1 0)) (mx (wrap64 (bt384.1 - 1)) 0)) == bt387.1), 0)) else (some ((fr : Int), rd (nearL (EndsR l fr).2.1 (rd (EndsR l fr).1 0)) (mx (wrap64 (bt384.1 - 1)) 0), false, 0)))) else (none)) else (none)) else (some (0, 0, false, bt384.2)))) (fun k => ?_) (Ev.bind hR2 ?_)
          · simp only [stickfulref14_One.j1]
            rw [if_pos trivial]
          · rcases reach_run (fitR l (fr : Int) wd st) hnp with ⟨k1, k2⟩ | ⟨k1, k2, k3⟩ | ⟨k1, j, k2, k3, k4⟩
            · rw [k2, if_neg k1]
              exact Ev.congr (fun k => if_neg k1) (Ev.now _)
            · rw [k3, if_pos rfl]
              refine Ev.congr (fun k => if_pos k1) ?_
              rw [k2, mx_sub0]
              refine Ev.congr (fun k => (if_pos (by omega)).trans (if_pos (by omega))) ?_
              exact rtail_ev hlen hfr _
            · rw [k4, if_pos rfl]
              refine Ev.congr (fun k => if_pos k1) ?_
              rw [k3, mx_sub (by omega)]
              refine Ev.congr (fun k => (if_pos (by omega)).trans (if_pos (by omega))) ?_
              exact rtail_ev hlen hfr _
        · have et : toR l fr wd st = (rd (EndsR l fr).1 0, 0) := by
            unfold toR
            rw [g3, if_neg (fun h => hnp h.2.2)]
          rw [et, if_pos rfl, decide_eq_false (show ¬ ((nearL (EndsR l fr).2.1 (rd (EndsR l fr).1 0)).length : Int) > 0 by omega)]
          refine Ev.step (fun k => ?_) (rtail_ev hlen hfr (rd (EndsR l fr).1 0))
          simp only [stickfulref14_One.j1]
          rw [if_neg (by decide)]
      · have et : toR l fr wd st = (rd (EndsR l fr).1 (j : Int), 0) := by
          unfold toR
          rw [g4, if_neg (fun h => absurd (show true = false from h.2.1) (by decide))]
        rw [et, if_pos rfl]
        refine Ev.congr (fun k => if_pos g1) ?_
        rw [g3, mx_sub (by omega)]
        refine Ev.congr (fun k => (if_pos (by omega)).trans ((if_pos (by omega)).trans (if_pos (by omega)))) ?_
        refine Ev.bind hah ?_
        refine Ev.congr (fun k => if_neg (by omega)) ?_
        refine Ev.step (fun k => ?_) (rtail_ev hlen hfr (rd (EndsR l fr).1 (j : Int)))
        simp only [stickfulref14_One.j1]
        rw [if_neg (by decide)]
  · rw [if_neg hm, if_neg hm]
    exact Ev.congr (fun k => if_neg (by decide)) (jt _ _)
theorem rd_mem {l : List Int} {j : Nat} (h : j < l.length) : rd l (j : Int) ∈ l := by rw [rd_int l h]; exact List.getElem_mem _
theorem to_in {l : List S46} {fr : Nat} (hfr : fr ≤ l.length) {wd st : Int} (h : (toR l fr wd st).2 = 0) : (fr : Int) ≤ (toR l fr wd st).1 ∧ (toR l fr wd st).1 ≤ (l.length : Int) ∧ (fr < l.length → (fr : Int) < (toR l fr wd st).1) := by
  have hl1 := E1_pos l fr
  have m1 : ∀ j : Nat, j < (EndsR l fr).1.length → (fr : Int) ≤ rd (EndsR l fr).1 (j : Int) ∧ rd (EndsR l fr).1 (j : Int) ≤ (l.length : Int) ∧ (fr < l.length → (fr : Int) < rd (EndsR l fr).1 (j : Int)) := fun j hj => E1_in l hfr _ (rd_mem hj)
  rcases reach_run (fitR l (fr : Int) wd st) hl1.1 with ⟨g1, g2⟩ | ⟨g1, g2, g3⟩ | ⟨g1, j, g2, g3, g4⟩
  · unfold toR at h
    rw [g2, if_neg (fun h => g1 h.1)] at h
    exact absurd h g1
  · by_cases hnp : 0 < (nearL (EndsR l fr).2.1 (rd (EndsR l fr).1 0)).length
    · have m2 : ∀ j : Nat, j < (nearL (EndsR l fr).2.1 (rd (EndsR l fr).1 0)).length → (fr : Int) < rd (nearL (EndsR l fr).2.1 (rd (EndsR l fr).1 0)) (j : Int) ∧ rd (nearL (EndsR l fr).2.1 (rd (EndsR l fr).1 0)) (j : Int) ≤ (l.length : Int) := fun j hj => by
        have := E2_in l hfr _ (near_in _ (rd_mem hj)).1
        exact ⟨this.1, this.2.1⟩
      have et : toR l fr wd st = ((reachR (fitR l (fr : Int) wd st) (nearL (EndsR l fr).2.1 (rd (EndsR l fr).1 0)) true 0).1, (reachR (fitR l (fr : Int) wd st) (nearL (EndsR l fr).2.1 (rd (EndsR l fr).1 0)) true 0).2.2) := by
        unfold toR
        rw [g3, if_pos ⟨rfl, rfl, hnp⟩]
      rw [et] at h ⊢
      rcases reach_run (fitR l (fr : Int) wd st) hnp with ⟨k1, k2⟩ | ⟨k1, k2, k3⟩ | ⟨k1, j, k2, k3, k4⟩
      · rw [k2] at h; exact absurd h k1
      · rw [k3]
        have := m2 0 hnp
        exact ⟨by have := this.1; simp only; exact Int.le_of_lt this, this.2, fun _ => this.1⟩
      · rw [k4]
        have := m2 j k2
        exact ⟨Int.le_of_lt this.1, this.2, fun _ => this.1⟩
    · have et : toR l fr wd st = (rd (EndsR l fr).1 0, 0) := by
        unfold toR
        rw [g3, if_neg (fun h => hnp h.2.2)]
      rw [et]
      exact m1 0 hl1.1
  · have et : toR l fr wd st = (rd (EndsR l fr).1 (j : Int), 0) := by
      unfold toR
      rw [g4, if_neg (fun h => absurd (show true = false from h.2.1) (by decide))]
    rw [et]
    exact m1 j g2
theorem one_in {l : List S46} {fr : Nat} (hfr : fr ≤ l.length) {wd st : Int} (h : (oneR l fr wd st).2.2.2 = 0) : (oneR l fr wd st).1 = (fr : Int) ∧ (fr : Int) ≤ (oneR l fr wd st).2.1 ∧ (oneR l fr wd st).2.1 ≤ (l.length : Int) ∧ (fr < l.length → (fr : Int) < (oneR l fr wd st).2.1) ∧ (fr = l.length → (oneR l fr wd st).2.2.1 = false) := by
  unfold oneR at h ⊢
  by_cases hm : mayR l (fr : Int) = true
  · rw [if_pos hm] at h ⊢
    by_cases hw : wd < 0
    · rw [if_pos hw] at h; exact absurd h (by decide)
    · rw [if_neg hw] at h ⊢
      by_cases hz : (toR l fr wd st).2 = 0
      · rw [if_pos hz]
        obtain ⟨g1, g2, g3⟩ := to_in hfr hz
        refine ⟨rfl, g1, g2, g3, fun he => ?_⟩
        have := (last_pos l hfr).2.2.2 he
        simp only
        rw [this]
        rfl
      · rw [if_neg hz] at h; exact absurd h hz
  · rw [if_neg hm] at h; exact absurd h (by decide)
/-- All lines from a place on. -/
def linesR (l : List S46) (rw_ rs : Int) : Nat → Nat → Int → Int → List S43 × Int
  | 0, _, _, _ => ([], 0)
  | K + 1, at_, wd, st =>
    if (oneR l at_ wd st).2.2.2 = 0 then
      (if (oneR l at_ wd st).2.2.1 = true ∨ (oneR l at_ wd st).2.1 < (l.length : Int) then
        (if (linesR l rw_ rs K (oneR l at_ wd st).2.1.toNat rw_ rs).2 = 0 then (⟨(oneR l at_ wd st).1, (oneR l at_ wd st).2.1, (oneR l at_ wd st).2.2.1⟩ :: (linesR l rw_ rs K (oneR l at_ wd st).2.1.toNat rw_ rs).1, 0) else ([], (linesR l rw_ rs K (oneR l at_ wd st).2.1.toNat rw_ rs).2))
      else ([⟨(oneR l at_ wd st).1, (oneR l at_ wd st).2.1, (oneR l at_ wd st).2.2.1⟩], 0))
    else ([], (oneR l at_ wd st).2.2.2)
def accL (acc : List S43) (r : List S43 × Int) : List S43 × Int := if r.2 = 0 then (acc ++ r.1, 0) else ([], r.2)
theorem rlines_l0 {l : List S46} (hlen : l.length ≤ 1000) (hl : ∀ c ∈ l, okC c) {rw_ rs : Int} : ∀ (K at_ : Nat) (acc : List S43) (x0 : Int) (fo : Bool), at_ ≤ l.length → l.length < at_ + K → acc.length ≤ at_ + 1 →
    Ev (fun k => stickfulref14_Lines.l0 k l acc rw_ rs x0 (at_ : Int) fo) (if fo = true ∨ (at_ : Int) < (l.length : Int) then accL acc (linesR l rw_ rs K at_ rw_ rs) else (acc, 0))
  | 0, at_, acc, x0, fo, h1, h2, _ => by omega
  | K + 1, at_, acc, x0, fo, h1, h2, h3 => by
    have stop : Ev (fun k => stickfulref14_Lines.j1 k l acc false rw_ rs x0 (at_ : Int) fo) (acc, (0 : Int)) := Ev.step (f := fun _ => some (acc, 0)) (fun k => by simp only [stickfulref14_Lines.j1]; rw [if_neg (by decide)]) (Ev.now _)
    have go : Ev (fun k => stickfulref14_Lines.j1 k l acc true rw_ rs x0 (at_ : Int) fo) (accL acc (linesR l rw_ rs (K + 1) at_ rw_ rs)) := by
      have e : ∀ k, stickfulref14_Lines.j1 (k + 1) l acc true rw_ rs x0 (at_ : Int) fo = (stickfulref14_One.f k l (at_ : Int) rw_ rs).bind fun bt401 => (if bt401.2.2.2 = 0 then (if acc.length < 5864062014805 then (stickfulref14_Lines.l0 k l (acc ++ [(⟨bt401.1, bt401.2.1, bt401.2.2.1⟩ : S43)]) rw_ rs bt401.1 bt401.2.1 bt401.2.2.1) else (none)) else (some (([] : List (S43)), bt401.2.2.2))) := by
        intro k
        simp only [stickfulref14_Lines.j1]
        rw [if_pos trivial]
      refine Ev.step e (Ev.bind (rone_ev (by omega) hl h1) ?_)
      simp only [linesR]
      by_cases he : (oneR l at_ rw_ rs).2.2.2 = 0
      · obtain ⟨o1, o2, o3, o4, o5⟩ := one_in h1 he
        rw [if_pos he]
        refine Ev.congr (fun k => (if_pos he).trans (if_pos (by omega))) ?_
        have hat : ((oneR l at_ rw_ rs).2.1.toNat : Int) = (oneR l at_ rw_ rs).2.1 := by omega
        by_cases hlt : at_ < l.length
        · have hgo := o4 hlt
          have ih := rlines_l0 hlen hl (rw_ := rw_) (rs := rs) K (oneR l at_ rw_ rs).2.1.toNat (acc ++ [(⟨(oneR l at_ rw_ rs).1, (oneR l at_ rw_ rs).2.1, (oneR l at_ rw_ rs).2.2.1⟩ : S43)]) (oneR l at_ rw_ rs).1 (oneR l at_ rw_ rs).2.2.1 (by omega) (by omega) (by simp; omega)
          rw [hat] at ih
          by_cases hm : (oneR l at_ rw_ rs).2.2.1 = true ∨ (oneR l at_ rw_ rs).2.1 < (l.length : Int)
          · rw [if_pos hm] at ih ⊢
            have ea : accL acc (if (linesR l rw_ rs K (oneR l at_ rw_ rs).2.1.toNat rw_ rs).2 = 0 then ((⟨(oneR l at_ rw_ rs).1, (oneR l at_ rw_ rs).2.1, (oneR l at_ rw_ rs).2.2.1⟩ : S43) :: (linesR l rw_ rs K (oneR l at_ rw_ rs).2.1.toNat rw_ rs).1, 0) else ([], (linesR l rw_ rs K (oneR l at_ rw_ rs).2.1.toNat rw_ rs).2)) = accL (acc ++ [(⟨(oneR l at_ rw_ rs).1, (oneR l at_ rw_ rs).2.1, (oneR l at_ rw_ rs).2.2.1⟩ : S43)]) (linesR l rw_ rs K (oneR l at_ rw_ rs).2.1.toNat rw_ rs) := by
              unfold accL
              by_cases hz : (linesR l rw_ rs K (oneR l at_ rw_ rs).2.1.toNat rw_ rs).2 = 0
              · rw [if_pos hz, if_pos rfl, if_pos hz]; simp
              · rw [if_neg hz, if_neg hz, if_neg hz]
            rw [ea]
            exact ih
          · rw [if_neg hm] at ih ⊢
            unfold accL
            rw [if_pos rfl]
            exact ih
        · have hf := o5 (by omega)
          have hm : ¬ ((oneR l at_ rw_ rs).2.2.1 = true ∨ (oneR l at_ rw_ rs).2.1 < (l.length : Int)) := fun h => by
            rcases h with h | h
            · rw [hf] at h; cases h
            · omega
          rw [if_neg hm]
          unfold accL
          rw [if_pos rfl, hf]
          refine Ev.step (f := fun k => stickfulref14_Lines.j1 k l (acc ++ [(⟨(oneR l at_ rw_ rs).1, (oneR l at_ rw_ rs).2.1, false⟩ : S43)]) false rw_ rs (oneR l at_ rw_ rs).1 (oneR l at_ rw_ rs).2.1 false) (fun k => ?_) (Ev.step (f := fun _ => some (acc ++ [(⟨(oneR l at_ rw_ rs).1, (oneR l at_ rw_ rs).2.1, false⟩ : S43)], 0)) (fun k => by simp only [stickfulref14_Lines.j1]; rw [if_neg (by decide)]) (Ev.now _))
          simp only [stickfulref14_Lines.l0]
          rw [if_neg (by decide), decide_eq_false (by omega)]
      · rw [if_neg he]
        unfold accL
        rw [if_neg he]
        exact Ev.congr (fun k => if_neg he) (Ev.now _)
    by_cases hf : fo = true
    · rw [if_pos (.inl hf)]
      refine Ev.step (fun k => ?_) go
      simp only [stickfulref14_Lines.l0]
      rw [if_pos hf]
    · by_cases ha : (at_ : Int) < (l.length : Int)
      · rw [if_pos (.inr ha)]
        refine Ev.step (fun k => ?_) go
        simp only [stickfulref14_Lines.l0]
        rw [if_neg hf, decide_eq_true ha]
      · rw [if_neg (fun h => h.elim hf ha)]
        refine Ev.step (fun k => ?_) stop
        simp only [stickfulref14_Lines.l0]
        rw [if_neg hf, decide_eq_false ha]
def LinesR (l : List S46) (w1_ s1 w2_ s2 : Int) : List S43 × Int := if w2_ < 0 then ([], 2) else linesR l w2_ s2 (l.length + 2) 0 w1_ s1
theorem rlines_ev {l : List S46} (hlen : l.length ≤ 1000) (hl : ∀ c ∈ l, okC c) {w1_ s1 w2_ s2 : Int} : Ev (fun k => stickfulref14_Lines.f k l w1_ s1 w2_ s2) (LinesR l w1_ s1 w2_ s2) := by
  unfold stickfulref14_Lines.f LinesR
  by_cases hw : w2_ < 0
  · rw [if_pos hw]; exact Ev.congr (fun k => if_pos hw) (Ev.now _)
  · rw [if_neg hw]
    refine Ev.congr (fun k => if_neg hw) ?_
    refine Ev.bind (rone_ev (by omega) hl (fr := 0) (by omega)) ?_
    have e0 : linesR l w2_ s2 (l.length + 2) 0 w1_ s1 = linesR l w2_ s2 ((l.length + 1) + 1) 0 w1_ s1 := rfl
    rw [e0]
    simp only [linesR]
    by_cases he : (oneR l 0 w1_ s1).2.2.2 = 0
    · obtain ⟨o1, o2, o3, o4, o5⟩ := one_in (fr := 0) (by omega) he
      rw [if_pos he]
      refine Ev.congr (fun k => if_pos he) ?_
      have hat : ((oneR l 0 w1_ s1).2.1.toNat : Int) = (oneR l 0 w1_ s1).2.1 := by omega
      have ih := rlines_l0 hlen hl (rw_ := w2_) (rs := s2) (l.length + 1) (oneR l 0 w1_ s1).2.1.toNat [(⟨(oneR l 0 w1_ s1).1, (oneR l 0 w1_ s1).2.1, (oneR l 0 w1_ s1).2.2.1⟩ : S43)] (oneR l 0 w1_ s1).1 (oneR l 0 w1_ s1).2.2.1 (by omega) (by omega) (by simp)
      rw [hat] at ih
      by_cases hm : (oneR l 0 w1_ s1).2.2.1 = true ∨ (oneR l 0 w1_ s1).2.1 < (l.length : Int)
      · rw [if_pos hm] at ih ⊢
        unfold accL at ih
        exact ih
      · rw [if_neg hm] at ih ⊢
        exact ih
    · rw [if_neg he]
      exact Ev.congr (fun k => if_neg he) (Ev.now _)
theorem same43_l0 (l : List S43) (hl : l.length ≤ 1000000) : ∀ (r i : Nat), i + r = l.length → Ev (fun k => stickfulref14_Same.l0 k l l (i : Int)) true := by
  intro r
  induction r with
  | zero =>
    intro i hi
    refine Ev.step (f := fun _ => some true) (fun k => ?_) (Ev.now _)
    simp only [stickfulref14_Same.l0]
    rw [if_neg (by omega)]
  | succ r ih =>
    intro i hi
    refine Ev.step (fun k => ?_) (ih (i + 1) (by omega))
    simp only [stickfulref14_Same.l0]
    rw [if_pos (by omega), if_pos (by omega), if_pos (by omega), if_neg (by simp), w1 (by omega)]
theorem same43_ev (l : List S43) (hl : l.length ≤ 1000000) : Ev (fun k => stickfulref14_Same.f k l l) true := by
  refine Ev.congr (fun k => ?_) (same43_l0 l hl l.length 0 (by omega))
  unfold stickfulref14_Same.f
  rw [if_pos rfl]
  rfl
theorem lines_len (l : List S46) (rw_ rs : Int) : ∀ (K at_ : Nat) (wd st : Int), (linesR l rw_ rs K at_ wd st).1.length ≤ K
  | 0, _, _, _ => Nat.le_refl _
  | K + 1, at_, wd, st => by
    have ih := lines_len l rw_ rs K (oneR l at_ wd st).2.1.toNat rw_ rs
    simp only [linesR]
    split
    · split
      · split
        · simp only [List.length_cons]; omega
        · simp
      · simp
    · simp
end Go.Proofs.Ytdmlnkgpjileaaa.PureF
namespace Go.Proofs.Ytdmlnkgpjileaaa.PureF
set_option linter.unusedVariables false
open Go.RowKit Go.Proofs.YtdmlnkgpjileaaaW.PrintWords Go.Proofs.YtdmlnkgpjileaaaW.PrintLast Go.Proofs.YtdmlnkgpjileaaaW.PrintMore Go.Proofs.Ytdmlnkgpjileaaa.Hand Go.Proofs.Ytdmlnkgpjileaaa.HFirst
theorem seg_shift (l : List S46) (t : Nat) {fr p : Int} (h0 : 0 ≤ fr) (h1 : 0 ≤ p) : segL (l.drop t) fr p = segL l (fr + t) (p + t) := by
  unfold segL
  rw [show (fr + (t : Int)).toNat = t + fr.toNat by omega, show (p + (t : Int)).toNat = t + p.toNat by omega, List.take_drop, List.drop_drop]
theorem rd_shift (l : List S46) (t : Nat) {i : Int} (h : 0 ≤ i) : rd_T46 (l.drop t) i = rd_T46 l (i + t) := by
  unfold rd_T46
  rw [show (i + (t : Int)).toNat = t + i.toNat by omega]
  simp only [List.getD, List.getElem?_drop]
theorem last1_shift (l : List S46) (t : Nat) : ∀ (r i : Nat), last1 (l.drop t) r i = ((last1 l r (i + t)).1 - t, (last1 l r (i + t)).2)
  | 0, i => by simp only [last1]; rw [show (((i + t : Nat) : Int) - (t : Int)) = (i : Int) by omega]
  | r + 1, i => by
    have ih := last1_shift l t r (i + 1)
    rw [show i + 1 + t = i + t + 1 by omega] at ih
    simp only [last1]
    rw [rd_shift l t (by omega), show (i : Int) + (t : Int) = ((i + t : Nat) : Int) by omega]
    by_cases h : (rd_T46 l ((i + t : Nat) : Int)).f0 = 8
    · rw [if_pos h, if_pos h]; exact ih
    · rw [if_neg h, if_neg h, show (((i + t : Nat) : Int) - (t : Int)) = (i : Int) by omega]
theorem last0_shift (l : List S46) {t : Nat} (ht : t ≤ l.length) : ∀ (r i : Nat), last0 (l.drop t) r i = ((last0 l r (i + t)).1 - t, (last0 l r (i + t)).2)
  | 0, i => by simp only [last0]; rw [show (((l.drop t).length : Nat) : Int) = (l.length : Int) - (t : Int) by rw [List.length_drop]; omega]
  | r + 1, i => by
    have ih := last0_shift l ht r (i + 1)
    have ih1 := last1_shift l t r (i + 1)
    rw [show i + 1 + t = i + t + 1 by omega] at ih ih1
    simp only [last0]
    rw [rd_shift l t (by omega), show (i : Int) + (t : Int) = ((i + t : Nat) : Int) by omega]
    by_cases h : (rd_T46 l ((i + t : Nat) : Int)).f0 = 5
    · rw [if_pos h, if_pos h]; exact ih1
    · rw [if_neg h, if_neg h]; exact ih
theorem lastR_shift (l : List S46) {t : Nat} (ht : t ≤ l.length) (at_ : Nat) : lastR (l.drop t) at_ = ((lastR l (at_ + t)).1 - t, (lastR l (at_ + t)).2) := by
  unfold lastR
  rw [last0_shift l ht, List.length_drop, show l.length - t - at_ = l.length - (at_ + t) by omega]
theorem endsR_fuel (l : List S46) (fr te : Int) (is : S46 → Bool) : ∀ (n m : Nat) (p : Int), te - p < n → te - p < m → endsR l fr te is n p = endsR l fr te is m p
  | 0, 0, _, _, _ => rfl
  | 0, m + 1, p, h, _ => by simp only [endsR]; rw [if_neg (by omega)]
  | n + 1, 0, p, _, h => by simp only [endsR]; rw [if_neg (by omega)]
  | n + 1, m + 1, p, h1, h2 => by
    have ih := endsR_fuel l fr te is n m (p + 1) (by omega) (by omega)
    simp only [endsR]
    rw [ih]
theorem endsR_shift (l : List S46) (t : Nat) {fr : Int} (hfr : 0 ≤ fr) (te : Int) (is : S46 → Bool) : ∀ (n : Nat) (p : Int), 0 ≤ p → endsR (l.drop t) fr (te - t) is n p = (endsR l (fr + t) te is n (p + t)).map (· - (t : Int))
  | 0, _, _ => rfl
  | n + 1, p, hp => by
    have ih := endsR_shift l t hfr te is n (p + 1) (by omega)
    rw [show p + 1 + (t : Int) = p + t + 1 by omega] at ih
    simp only [endsR]
    rw [rd_shift l t hp, seg_shift l t hfr hp, ih]
    by_cases h1 : p + (t : Int) < te
    · rw [if_pos h1, if_pos (show p < te - (t : Int) by omega)]
      by_cases h2 : is (rd_T46 l (p + t)) = true
      · rw [if_pos h2, if_pos h2]
        by_cases h3 : bl (segL l (fr + t) (p + t)) = true
        · rw [if_pos h3, if_pos h3]
        · rw [if_neg h3, if_neg h3, List.map_cons, show p + (t : Int) - (t : Int) = p by omega]
      · rw [if_neg h2, if_neg h2]
    · rw [if_neg h1, if_neg (show ¬ p < te - (t : Int) by omega)]; rfl
theorem EndsR_shift (l : List S46) {t : Nat} {at_ : Nat} (h : at_ + t ≤ l.length) : EndsR (l.drop t) at_ = ((EndsR l (at_ + t)).1.map (· - (t : Int)), (EndsR l (at_ + t)).2.1.map (· - (t : Int)), 0) := by
  have hl := (last_pos l h).2.1
  have hd : (l.drop t).length = l.length - t := List.length_drop
  have key : ∀ is : S46 → Bool, endsR (l.drop t) (at_ : Int) (lastR (l.drop t) at_).1 is ((l.drop t).length + 1) ((at_ : Int) + 1) = (endsR l ((at_ + t : Nat) : Int) (lastR l (at_ + t)).1 is (l.length + 1) (((at_ + t : Nat) : Int) + 1)).map (· - (t : Int)) := by
    intro is
    rw [lastR_shift l (by omega), endsR_fuel (l.drop t) _ _ is ((l.drop t).length + 1) (l.length + 1) _ (by simp only; omega) (by simp only; omega), endsR_shift l t (by omega) _ is _ _ (by omega)]
    rw [show (at_ : Int) + (t : Int) = ((at_ + t : Nat) : Int) by omega, show (at_ : Int) + 1 + (t : Int) = ((at_ + t : Nat) : Int) + 1 by omega]
  unfold EndsR
  rw [key, key, lastR_shift l (by omega)]
  simp
theorem fitR_shift (l : List S46) {t at_ : Nat} (wd st : Int) {q : Int} (hq : (t : Int) ≤ q) : fitR (l.drop t) (at_ : Int) wd st (q - t) = fitR l ((at_ + t : Nat) : Int) wd st q := by
  unfold fitR
  rw [seg_shift l t (by omega) (by omega), show (at_ : Int) + (t : Int) = ((at_ + t : Nat) : Int) by omega, show q - (t : Int) + (t : Int) = q by omega]
def sh3 (t : Int) (r : Int × Bool × Int) : Int × Bool × Int := if r.2.2 = 0 then (r.1 - t, r.2.1, 0) else r
def sh2 (t : Int) (r : Int × Int) : Int × Int := if r.2 = 0 then (r.1 - t, 0) else r
theorem reach_shift (t : Int) (f g : Int → Bool × Int) : ∀ (xs : List Int) (p : Int), (∀ q ∈ xs, g (q - t) = f q) → reachR g (xs.map (· - t)) false (p - t) = sh3 t (reachR f xs false p)
  | [], p, _ => by simp only [List.map_nil, reachR, sh3]; rw [if_pos trivial]
  | q :: qs, p, h => by
    have ih := reach_shift t f g qs q fun z hz => h z (List.mem_cons_of_mem _ hz)
    have hq := h q (List.mem_cons_self ..)
    simp only [List.map_cons, reachR]
    rw [hq]
    by_cases h1 : (f q).2 = 0
    · rw [if_pos h1, if_pos h1]
      by_cases h2 : (f q).1 = true
      · rw [if_pos h2, if_pos h2]; exact ih
      · rw [if_neg h2, if_neg h2, if_neg (by decide), if_neg (by decide)]
        unfold sh3
        rw [if_pos rfl]
    · rw [if_neg h1, if_neg h1]
      unfold sh3
      rw [if_neg h1]
theorem reach_shift1 (t : Int) (f g : Int → Bool × Int) {xs : List Int} (hx : 0 < xs.length) (h : ∀ q ∈ xs, g (q - t) = f q) : reachR g (xs.map (· - t)) true 0 = sh3 t (reachR f xs true 0) := by
  cases xs with
  | nil => simp at hx
  | cons q qs =>
    have ih := reach_shift t f g qs q fun z hz => h z (List.mem_cons_of_mem _ hz)
    have hq := h q (List.mem_cons_self ..)
    simp only [List.map_cons, reachR]
    rw [hq]
    by_cases h1 : (f q).2 = 0
    · rw [if_pos h1, if_pos h1]
      by_cases h2 : (f q).1 = true
      · rw [if_pos h2, if_pos h2]; exact ih
      · rw [if_neg h2, if_neg h2, if_pos trivial, if_pos trivial]
        unfold sh3
        rw [if_pos rfl]
    · rw [if_neg h1, if_neg h1]
      unfold sh3
      rw [if_neg h1]
theorem near_shift (t : Int) (E : List Int) (z : Int) : nearL (E.map (· - t)) (z - t) = (nearL E z).map (· - t) := by
  unfold nearL
  rw [List.filter_map]
  congr 1
  apply List.filter_congr
  intro q _
  simp only [Function.comp, decide_eq_decide]
  omega
theorem toR_shift (l : List S46) {t at_ : Nat} (h : at_ + t ≤ l.length) (wd st : Int) : toR (l.drop t) at_ wd st = sh2 t (toR l (at_ + t) wd st) := by
  have hE := EndsR_shift l h
  have hp := (E1_pos l (at_ + t)).1
  have i1 : ∀ q ∈ (EndsR l (at_ + t)).1, fitR (l.drop t) (at_ : Int) wd st (q - t) = fitR l ((at_ + t : Nat) : Int) wd st q := fun q hq => fitR_shift l wd st (by have := (E1_in l h q hq).1; omega)
  have i2 : ∀ q ∈ (EndsR l (at_ + t)).2.1, fitR (l.drop t) (at_ : Int) wd st (q - t) = fitR l ((at_ + t : Nat) : Int) wd st q := fun q hq => fitR_shift l wd st (by have := (E2_in l h q hq).1; omega)
  unfold toR
  rw [hE]
  simp only
  rw [reach_shift1 (t : Int) _ _ hp i1]
  generalize hR : reachR (fitR l ((at_ + t : Nat) : Int) wd st) (EndsR l (at_ + t)).1 true 0 = R
  by_cases hz : R.2.2 = 0
  · have hs : sh3 (t : Int) R = (R.1 - t, R.2.1, 0) := if_pos hz
    rw [hs]
    simp only
    rw [near_shift, List.length_map]
    by_cases hA : R.2.2 = 0 ∧ R.2.1 = false ∧ 0 < (nearL (EndsR l (at_ + t)).2.1 R.1).length
    · rw [if_pos hA, if_pos ⟨trivial, hA.2⟩, reach_shift1 (t : Int) _ _ hA.2.2 (fun q hq => i2 q (near_in q hq).1)]
      generalize reachR (fitR l ((at_ + t : Nat) : Int) wd st) (nearL (EndsR l (at_ + t)).2.1 R.1) true 0 = T
      unfold sh3 sh2
      by_cases hT : T.2.2 = 0
      · rw [if_pos hT, if_pos hT]
      · rw [if_neg hT, if_neg hT]
    · rw [if_neg hA, if_neg (fun hc => hA ⟨hz, hc.2⟩)]
      unfold sh2
      rw [if_pos hz]
  · have hs : sh3 (t : Int) R = R := if_neg hz
    rw [hs, if_neg (fun hc => hz hc.1), if_neg (fun hc => hz hc.1)]
    unfold sh2
    rw [if_neg hz]
theorem may_all {l : List S46} (hb : l.any badTab = false) {i : Nat} (h : i ≤ l.length) : mayR l (i : Int) = true := by
  unfold mayR
  rw [hb, decide_eq_true (show 0 ≤ (i : Int) by omega), decide_eq_true (show (i : Int) ≤ (l.length : Int) by omega)]
  rfl
theorem drop_bad {l : List S46} (hb : l.any badTab = false) (t : Nat) : (l.drop t).any badTab = false := by
  rw [Bool.eq_false_iff] at hb ⊢
  intro h
  obtain ⟨c, hc, hc2⟩ := List.any_eq_true.1 h
  exact hb (List.any_eq_true.2 ⟨c, List.mem_of_mem_drop hc, hc2⟩)
theorem oneR_ok {l : List S46} (hb : l.any badTab = false) {at_ : Nat} (h : at_ ≤ l.length) (wd st : Int) : oneR l at_ wd st = if wd < 0 then (0, 0, false, 2) else (if (toR l at_ wd st).2 = 0 then ((at_ : Int), (toR l at_ wd st).1, ((lastR l at_).2 && ((toR l at_ wd st).1 == (lastR l at_).1)), 0) else (0, 0, false, (toR l at_ wd st).2)) := by
  unfold oneR
  rw [if_pos (may_all hb h)]
theorem oneR_shift (l : List S46) {t at_ : Nat} (h : at_ + t ≤ l.length) (hb : l.any badTab = false) (wd st : Int) : oneR (l.drop t) at_ wd st = if (oneR l (at_ + t) wd st).2.2.2 = 0 then ((oneR l (at_ + t) wd st).1 - t, (oneR l (at_ + t) wd st).2.1 - t, (oneR l (at_ + t) wd st).2.2.1, 0) else oneR l (at_ + t) wd st := by
  have hd : (l.drop t).length = l.length - t := List.length_drop
  rw [oneR_ok hb h, oneR_ok (drop_bad hb t) (by omega), toR_shift l h, lastR_shift l (by omega)]
  by_cases hw : wd < 0
  · rw [if_pos hw, if_pos hw, if_neg (by decide)]
  · rw [if_neg hw, if_neg hw]
    generalize toR l (at_ + t) wd st = T
    generalize lastR l (at_ + t) = L
    unfold sh2
    by_cases hT : T.2 = 0
    · rw [if_pos hT, if_pos hT, if_pos rfl, if_pos rfl]
      simp only
      rw [show (((at_ + t : Nat) : Int) - (t : Int)) = (at_ : Int) by omega]
      have : (T.1 - (t : Int) == L.1 - (t : Int)) = (T.1 == L.1) := by
        rw [Bool.eq_iff_iff, beq_iff_eq, beq_iff_eq]; omega
      rw [this]
    · rw [if_neg hT, if_neg hT, if_neg hT, if_neg hT]
/-- A line moved. -/
def shf (t : Int) (x : S43) : S43 := ⟨x.f0 - t, x.f1 - t, x.f2⟩
theorem linesR_shift (l : List S46) (hb : l.any badTab = false) (t : Nat) (rw_ rs : Int) : ∀ (K at_ : Nat) (wd st : Int), at_ + t ≤ l.length → linesR (l.drop t) rw_ rs K at_ wd st = ((linesR l rw_ rs K (at_ + t) wd st).1.map (shf t), (linesR l rw_ rs K (at_ + t) wd st).2)
  | 0, _, _, _, _ => rfl
  | K + 1, at_, wd, st, h => by
    have hd : (l.drop t).length = l.length - t := List.length_drop
    have ho := oneR_shift l h hb wd st
    simp only [linesR]
    by_cases he : (oneR l (at_ + t) wd st).2.2.2 = 0
    · rw [if_pos he] at ho
      obtain ⟨o1, o2, o3, o4, o5⟩ := one_in h he
      rw [ho]
      simp only
      rw [if_pos trivial, if_pos he]
      by_cases hm : (oneR l (at_ + t) wd st).2.2.1 = true ∨ (oneR l (at_ + t) wd st).2.1 < (l.length : Int)
      · have hm2 : (oneR l (at_ + t) wd st).2.2.1 = true ∨ (oneR l (at_ + t) wd st).2.1 - (t : Int) < ((l.drop t).length : Int) := hm.imp id fun h => by omega
        have ih := linesR_shift l hb t rw_ rs K ((oneR l (at_ + t) wd st).2.1 - (t : Int)).toNat rw_ rs (by omega)
        rw [show ((oneR l (at_ + t) wd st).2.1 - (t : Int)).toNat + t = (oneR l (at_ + t) wd st).2.1.toNat by omega] at ih
        rw [if_pos hm, if_pos hm2, ih]
        simp only
        by_cases hz : (linesR l rw_ rs K (oneR l (at_ + t) wd st).2.1.toNat rw_ rs).2 = 0
        · rw [if_pos hz, if_pos hz]; rfl
        · rw [if_neg hz, if_neg hz]; rfl
      · have hm2 : ¬ ((oneR l (at_ + t) wd st).2.2.1 = true ∨ (oneR l (at_ + t) wd st).2.1 - (t : Int) < ((l.drop t).length : Int)) := fun h => hm (h.imp id fun h => by omega)
        rw [if_neg hm, if_neg hm2]; rfl
    · rw [if_neg he] at ho
      rw [ho, if_neg he, if_neg he]; rfl
end Go.Proofs.Ytdmlnkgpjileaaa.PureF
namespace Go.Proofs.Ytdmlnkgpjileaaa.PureF
set_option linter.unusedVariables false
open Go.RowKit Go.Proofs.YtdmlnkgpjileaaaW.PrintWords Go.Proofs.YtdmlnkgpjileaaaW.PrintLast Go.Proofs.YtdmlnkgpjileaaaW.PrintMore Go.Proofs.Ytdmlnkgpjileaaa.Hand Go.Proofs.Ytdmlnkgpjileaaa.HFirst
theorem asAdv_iff (x y : S46) : asAdv x y = true ↔ x.f0 = y.f0 ∧ x.f1 = y.f1 ∧ x.f2 = y.f2 ∧ x.f4 = y.f4 ∧ x.f5 = y.f5 := by
  unfold asAdv
  simp only [Bool.and_eq_true, beq_iff_eq]
theorem ralike_l0 (l0 l1 : List S46) (hlen : l0.length ≤ 100000) (he : l0.length = l1.length) : ∀ (r i : Nat), i + r = l0.length → Ev (fun k => stickfulref15_Alike.l0 k l0 l1 (i : Int)) (asN l0 l1 r (i : Int)) := by
  intro r
  induction r with
  | zero =>
    intro i hi
    refine Ev.step (f := fun _ => some true) (fun k => ?_) (Ev.now _)
    simp only [stickfulref15_Alike.l0]
    rw [if_neg (by omega)]
  | succ r ih =>
    intro i hi
    have ih := ih (i + 1) (by omega)
    simp only [asN]
    rw [show (i : Int) + 1 = ((i + 1 : Nat) : Int) by omega]
    have e : ∀ k, stickfulref15_Alike.l0 (k + 1) l0 l1 (i : Int) = if asAdv (rd_T46 l0 (i : Int)) (rd_T46 l1 (i : Int)) = true then stickfulref15_Alike.l0 k l0 l1 ((i + 1 : Nat) : Int) else some false := by
      intro k
      simp only [stickfulref15_Alike.l0]
      rw [if_pos (by omega), if_pos (by omega), if_pos (by omega), w1 (by omega)]
      generalize rd_T46 l0 (i : Int) = x
      generalize rd_T46 l1 (i : Int) = y
      by_cases h : asAdv x y = true
      · obtain ⟨h0, h1, h2, h4, h5⟩ := (asAdv_iff x y).1 h
        rw [if_pos h, if_pos h0, if_pos h1, if_pos h2, if_neg (by rw [h4]; simp), if_neg (by rw [h5]; simp)]
      · rw [if_neg h]
        by_cases h0 : x.f0 = y.f0
        · rw [if_pos h0]
          by_cases h1 : x.f1 = y.f1
          · rw [if_pos h1]
            by_cases h2 : x.f2 = y.f2
            · rw [if_pos h2]
              by_cases h4 : x.f4 = y.f4
              · rw [if_neg (by rw [h4]; simp)]
                by_cases h5 : x.f5 = y.f5
                · exact absurd ((asAdv_iff x y).2 ⟨h0, h1, h2, h4, h5⟩) h
                · rw [if_pos (by simpa using h5)]
              · rw [if_pos (by simpa using h4)]
            · rw [if_neg h2]
          · rw [if_neg h1]
        · rw [if_neg h0]
    refine Ev.step e ?_
    by_cases h : asAdv (rd_T46 l0 (i : Int)) (rd_T46 l1 (i : Int)) = true
    · rw [h, Bool.true_and]
      exact Ev.congr (fun k => if_pos rfl) ih
    · rw [Bool.eq_false_iff.2 h, Bool.false_and]
      exact Ev.congr (fun k => if_neg (by decide)) (Ev.now _)
theorem ralike_ev (l0 l1 : List S46) (hlen : l0.length ≤ 100000) : Ev (fun k => stickfulref15_Alike.f k l0 l1) (asL l0 l1) := by
  unfold stickfulref15_Alike.f asL
  by_cases h : (l0.length : Int) = (l1.length : Int)
  · rw [decide_eq_true h, Bool.true_and]
    exact Ev.congr (fun k => if_pos h) (ralike_l0 l0 l1 hlen (by omega) l0.length 0 (by omega))
  · rw [decide_eq_false h, Bool.false_and]
    exact Ev.congr (fun k => if_neg h) (Ev.now _)
theorem as_len {l0 l1 : List S46} (h : asL l0 l1 = true) : l0.length = l1.length := by
  unfold asL at h
  simp only [Bool.and_eq_true, decide_eq_true_eq] at h
  omega
/-- What the iterator hands over, and what comes of it. -/
def Outs (xs : List (S43 × Int)) (r : List S43 × Int) : Prop := errO xs = r.2 ∧ (errO xs = 0 → xs.map (·.1) = r.1)
theorem goes_ev {l : List S46} (hlen : l.length ≤ 1000) (hl : ∀ c ∈ l, okC c) {b0 b1 : Int} (hb1 : in64 b1) : ∀ (K at_ : Nat) (wd st : Int), in64 st → at_ ≤ l.length → l.length < at_ + K →
    ∃ xs, xs.length ≤ K ∧ Outs xs (linesR l b0 b1 K at_ wd st) ∧ ∃ M, ∀ k n, M ≤ k → M ≤ n → goesO (fill_One.f k) l b0 b1 n l (at_ : Int) wd st = some xs
  | 0, at_, wd, st, _, h1, h2 => by omega
  | K + 1, at_, wd, st, hst, h1, h2 => by
    obtain ⟨M1, hM1⟩ := pone_ev (by omega) hl h1 (wd := wd) hst
    replace hM1 : ∀ k, M1 ≤ k → fill_One.f k l (at_ : Int) wd st = some (oneR l at_ wd st) := hM1
    simp only [linesR]
    by_cases he : (oneR l at_ wd st).2.2.2 = 0
    · obtain ⟨o1, o2, o3, o4, o5⟩ := one_in h1 he
      rw [if_pos he]
      have hat : ((oneR l at_ wd st).2.1.toNat : Int) = (oneR l at_ wd st).2.1 := by omega
      by_cases hm : (oneR l at_ wd st).2.2.1 = true ∨ (oneR l at_ wd st).2.1 < (l.length : Int)
      · rw [if_pos hm]
        have hlt : at_ < l.length := by
          rcases Nat.lt_or_ge at_ l.length with h | h
          · exact h
          · exfalso
            have := o5 (by omega)
            rcases hm with hm | hm
            · rw [this] at hm; cases hm
            · omega
        have hgo := o4 hlt
        obtain ⟨ys, hy1, hy2, M2, hM2⟩ := goes_ev (b0 := b0) hlen hl hb1 K (oneR l at_ wd st).2.1.toNat b0 b1 hb1 (by omega) (by omega)
        rw [hat] at hM2
        refine ⟨((⟨(oneR l at_ wd st).1, (oneR l at_ wd st).2.1, (oneR l at_ wd st).2.2.1⟩ : S43), (0 : Int)) :: ys, by simp; omega, ?_, max M1 M2 + 1, fun k n hk hn => ?_⟩
        · obtain ⟨h3, h4⟩ := hy2
          unfold Outs
          simp only [errO, if_pos]
          by_cases hz : (linesR l b0 b1 K (oneR l at_ wd st).2.1.toNat b0 b1).2 = 0
          · rw [if_pos hz]
            exact ⟨h3.trans hz, fun h => by rw [List.map_cons, h4 h]⟩
          · rw [if_neg hz]
            exact ⟨h3, fun h => absurd (h3.symm.trans h) hz⟩
        · obtain ⟨m, rfl⟩ : ∃ m, n = m + 1 := ⟨n - 1, by omega⟩
          simp only [goesO]
          rw [hM1 k (by omega), Option.bind_some, if_pos he, if_pos hm, hM2 k m (by omega) (by omega), Option.bind_some]
      · rw [if_neg hm]
        refine ⟨[((⟨(oneR l at_ wd st).1, (oneR l at_ wd st).2.1, (oneR l at_ wd st).2.2.1⟩ : S43), (0 : Int))], by simp, ⟨rfl, fun _ => rfl⟩, M1 + 1, fun k n hk hn => ?_⟩
        obtain ⟨m, rfl⟩ : ∃ m, n = m + 1 := ⟨n - 1, by omega⟩
        simp only [goesO]
        rw [hM1 k (by omega), Option.bind_some, if_pos he, if_neg hm]
    · rw [if_neg he]
      refine ⟨[((⟨(oneR l at_ wd st).1, (oneR l at_ wd st).2.1, (oneR l at_ wd st).2.2.1⟩ : S43), (oneR l at_ wd st).2.2.2)], by simp, ?_, M1 + 1, fun k n hk hn => ?_⟩
      · unfold Outs
        simp only [errO]
        rw [if_neg he]
        exact ⟨rfl, fun h => absurd h he⟩
      · obtain ⟨m, rfl⟩ : ∃ m, n = m + 1 := ⟨n - 1, by omega⟩
        simp only [goesO]
        rw [hM1 k (by omega), Option.bind_some, if_neg he]
/-- The lines of two rows that are alike and may be. -/
def TwoR (l0 l1 : List S46) (a0 a1 b0 b1 : Int) : List S43 × Int :=
  if (oneR l0 0 a0 a1).2.2.2 = 0 then
    (if (oneR l0 0 a0 a1).2.2.1 = true ∨ (oneR l0 0 a0 a1).2.1 < (l0.length : Int) then
      (if (linesR l1 b0 b1 (l1.length + 2) (oneR l0 0 a0 a1).2.1.toNat b0 b1).2 = 0 then (⟨(oneR l0 0 a0 a1).1, (oneR l0 0 a0 a1).2.1, (oneR l0 0 a0 a1).2.2.1⟩ :: (linesR l1 b0 b1 (l1.length + 2) (oneR l0 0 a0 a1).2.1.toNat b0 b1).1, 0) else ([], (linesR l1 b0 b1 (l1.length + 2) (oneR l0 0 a0 a1).2.1.toNat b0 b1).2))
    else ([⟨(oneR l0 0 a0 a1).1, (oneR l0 0 a0 a1).2.1, (oneR l0 0 a0 a1).2.2.1⟩], 0))
  else ([], (oneR l0 0 a0 a1).2.2.2)
theorem two_ev {l0 l1 : List S46} (hlen : l0.length ≤ 1000) (he : l0.length = l1.length) (hl0 : ∀ c ∈ l0, okC c) (hl1 : ∀ c ∈ l1, okC c) {a0 a1 b0 b1 : Int} (ha1 : in64 a1) (hb1 : in64 b1) :
    ∃ xs, xs.length ≤ 1003 ∧ Outs xs (TwoR l0 l1 a0 a1 b0 b1) ∧ ∃ M, ∀ k n, M ≤ k → M ≤ n → goesO (fill_One.f k) l1 b0 b1 n l0 0 a0 a1 = some xs := by
  obtain ⟨M1, hM1⟩ := pone_ev (by omega) hl0 (fr := 0) (by omega) (wd := a0) ha1
  have hM1' : ∀ k, M1 ≤ k → fill_One.f k l0 0 a0 a1 = some (oneR l0 0 a0 a1) := hM1
  unfold TwoR
  by_cases h0 : (oneR l0 0 a0 a1).2.2.2 = 0
  · obtain ⟨o1, o2, o3, o4, o5⟩ := one_in (fr := 0) (by omega) h0
    rw [if_pos h0]
    have hat : ((oneR l0 0 a0 a1).2.1.toNat : Int) = (oneR l0 0 a0 a1).2.1 := by omega
    by_cases hm : (oneR l0 0 a0 a1).2.2.1 = true ∨ (oneR l0 0 a0 a1).2.1 < (l0.length : Int)
    · rw [if_pos hm]
      obtain ⟨ys, hy1, hy2, M2, hM2⟩ := goes_ev (b0 := b0) (by omega) hl1 hb1 (l1.length + 2) (oneR l0 0 a0 a1).2.1.toNat b0 b1 hb1 (by omega) (by omega)
      rw [hat] at hM2
      refine ⟨((⟨(oneR l0 0 a0 a1).1, (oneR l0 0 a0 a1).2.1, (oneR l0 0 a0 a1).2.2.1⟩ : S43), (0 : Int)) :: ys, by simp; omega, ?_, max M1 M2 + 1, fun k n hk hn => ?_⟩
      · obtain ⟨h3, h4⟩ := hy2
        unfold Outs
        simp only [errO, if_pos]
        by_cases hz : (linesR l1 b0 b1 (l1.length + 2) (oneR l0 0 a0 a1).2.1.toNat b0 b1).2 = 0
        · rw [if_pos hz]
          exact ⟨h3.trans hz, fun h => by rw [List.map_cons, h4 h]⟩
        · rw [if_neg hz]
          exact ⟨h3, fun h => absurd (h3.symm.trans h) hz⟩
      · obtain ⟨m, rfl⟩ : ∃ m, n = m + 1 := ⟨n - 1, by omega⟩
        simp only [goesO]
        rw [hM1' k (by omega), Option.bind_some, if_pos h0, if_pos hm, hM2 k m (by omega) (by omega), Option.bind_some]
    · rw [if_neg hm]
      refine ⟨[((⟨(oneR l0 0 a0 a1).1, (oneR l0 0 a0 a1).2.1, (oneR l0 0 a0 a1).2.2.1⟩ : S43), (0 : Int))], by simp, ⟨rfl, fun _ => rfl⟩, M1 + 1, fun k n hk hn => ?_⟩
      obtain ⟨m, rfl⟩ : ∃ m, n = m + 1 := ⟨n - 1, by omega⟩
      simp only [goesO]
      rw [hM1' k (by omega), Option.bind_some, if_pos h0, if_neg hm]
  · rw [if_neg h0]
    refine ⟨[((⟨(oneR l0 0 a0 a1).1, (oneR l0 0 a0 a1).2.1, (oneR l0 0 a0 a1).2.2.1⟩ : S43), (oneR l0 0 a0 a1).2.2.2)], by simp, ?_, M1 + 1, fun k n hk hn => ?_⟩
    · unfold Outs
      simp only [errO]
      rw [if_neg h0]
      exact ⟨rfl, fun h => absurd h h0⟩
    · obtain ⟨m, rfl⟩ : ∃ m, n = m + 1 := ⟨n - 1, by omega⟩
      simp only [goesO]
      rw [hM1' k (by omega), Option.bind_some, if_neg h0]
/-- The lines of two rows, or why there are none. -/
def FirstR (l0 l1 : List S46) (a0 a1 b0 b1 : Int) : List S43 × Int :=
  if asL l0 l1 = true ∧ mayR l1 0 = true ∧ ¬ b0 < 0 then TwoR l0 l1 a0 a1 b0 b1 else ([], 2)
theorem two_err (l0 l1 : List S46) (a0 a1 b0 b1 : Int) : (TwoR l0 l1 a0 a1 b0 b1).2 ≠ 0 → (TwoR l0 l1 a0 a1 b0 b1).1 = [] := by
  intro h
  unfold TwoR at h ⊢
  by_cases h0 : (oneR l0 0 a0 a1).2.2.2 = 0
  · rw [if_pos h0] at h ⊢
    by_cases hm : (oneR l0 0 a0 a1).2.2.1 = true ∨ (oneR l0 0 a0 a1).2.1 < (l0.length : Int)
    · rw [if_pos hm] at h ⊢
      by_cases hz : (linesR l1 b0 b1 (l1.length + 2) (oneR l0 0 a0 a1).2.1.toNat b0 b1).2 = 0
      · rw [if_pos hz] at h; exact absurd rfl h
      · rw [if_neg hz]
    · rw [if_neg hm] at h; exact absurd rfl h
  · rw [if_neg h0]
theorem pfirst_ev {l0 l1 : List S46} (h0 : l0.length ≤ 1000) (h1 : l1.length ≤ 1000) (hl0 : ∀ c ∈ l0, okC c) (hl1 : ∀ c ∈ l1, okC c) {a0 a1 b0 b1 : Int} (ha1 : in64 a1) (hb1 : in64 b1) : Ev (fun k => first_Lines.f k l0 l1 a0 a1 b0 b1) (FirstR l0 l1 a0 a1 b0 b1) := by
  unfold first_Lines.f FirstR
  refine Ev.bind (pends_ev l1 (by omega) 0 (by omega)) ?_
  by_cases ha : asL l0 l1 = true
  · refine Ev.congr (fun k => if_pos ha) ?_
    by_cases hm : mayR l1 0 = true
    · have hm2 : mayR l1 ((0 : Nat) : Int) = true := hm
      rw [if_pos hm2]
      refine Ev.congr (fun k => if_pos rfl) ?_
      by_cases hb : b0 < 0
      · rw [if_neg (fun h => h.2.2 hb)]
        exact Ev.congr (fun k => if_pos hb) (Ev.now _)
      · rw [if_pos ⟨ha, hm, hb⟩]
        refine Ev.congr (fun k => if_neg hb) ?_
        obtain ⟨xs, hx1, ⟨hx2, hx3⟩, M, hM⟩ := two_ev (b0 := b0) h0 (as_len ha) hl0 hl1 (a0 := a0) ha1 hb1
        refine ⟨M, fun k hk => ?_⟩
        show (goesO (fill_One.f k) l1 b0 b1 k l0 0 a0 a1).bind _ = _
        rw [hM k k hk hk, Option.bind_some, if_pos (by omega)]
        by_cases hz : errO xs = 0
        · rw [if_pos hz, hx3 hz]
          exact congrArg some (Prod.ext rfl (hz.symm.trans hx2))
        · rw [if_neg hz]
          exact congrArg some (Prod.ext (two_err _ _ _ _ _ _ (fun h => hz (hx2.trans h))).symm hx2)
    · have hm2 : ¬ mayR l1 ((0 : Nat) : Int) = true := hm
      rw [if_neg hm2, if_neg (fun h => hm h.2.1)]
      exact Ev.congr (fun k => if_neg (by decide)) (Ev.now _)
  · have hn : ¬ (asL l0 l1 = true ∧ mayR l1 0 = true ∧ ¬ b0 < 0) := fun h => ha h.1
    rw [if_neg hn]
    exact Ev.congr (fun k => if_neg ha) (Ev.now _)
theorem lines_fuel (l : List S46) (rw_ rs : Int) : ∀ (K K2 at_ : Nat) (wd st : Int), at_ ≤ l.length → l.length < at_ + K → l.length < at_ + K2 → linesR l rw_ rs K at_ wd st = linesR l rw_ rs K2 at_ wd st
  | 0, _, at_, _, _, h, h1, _ => by omega
  | K + 1, 0, at_, _, _, h, _, h2 => by omega
  | K + 1, K2 + 1, at_, wd, st, h, h1, h2 => by
    simp only [linesR]
    by_cases he : (oneR l at_ wd st).2.2.2 = 0
    · obtain ⟨o1, o2, o3, o4, o5⟩ := one_in h he
      rw [if_pos he, if_pos he]
      by_cases hm : (oneR l at_ wd st).2.2.1 = true ∨ (oneR l at_ wd st).2.1 < (l.length : Int)
      · have hlt : at_ < l.length := by
          rcases Nat.lt_or_ge at_ l.length with h | h
          · exact h
          · exfalso
            have := o5 (by omega)
            rcases hm with hm | hm
            · rw [this] at hm; cases hm
            · omega
        have hgo := o4 hlt
        rw [if_pos hm, if_pos hm, lines_fuel l rw_ rs K K2 (oneR l at_ wd st).2.1.toNat rw_ rs (by omega) (by omega) (by omega)]
      · rw [if_neg hm, if_neg hm]
    · rw [if_neg he, if_neg he]
theorem lines_in (l : List S46) (rw_ rs : Int) : ∀ (K at_ : Nat) (wd st : Int), at_ ≤ l.length → ∀ x ∈ (linesR l rw_ rs K at_ wd st).1, (at_ : Int) ≤ x.f0 ∧ x.f0 ≤ x.f1 ∧ x.f1 ≤ (l.length : Int)
  | 0, _, _, _, _, x, hx => by cases hx
  | K + 1, at_, wd, st, h, x, hx => by
    simp only [linesR] at hx
    by_cases he : (oneR l at_ wd st).2.2.2 = 0
    · obtain ⟨o1, o2, o3, o4, o5⟩ := one_in h he
      rw [if_pos he] at hx
      by_cases hm : (oneR l at_ wd st).2.2.1 = true ∨ (oneR l at_ wd st).2.1 < (l.length : Int)
      · rw [if_pos hm] at hx
        by_cases hz : (linesR l rw_ rs K (oneR l at_ wd st).2.1.toNat rw_ rs).2 = 0
        · rw [if_pos hz] at hx
          rcases List.mem_cons.1 hx with rfl | hx
          · exact ⟨by simp only; omega, by simp only; omega, o3⟩
          · have := lines_in l rw_ rs K (oneR l at_ wd st).2.1.toNat rw_ rs (by omega) x hx
            omega
        · rw [if_neg hz] at hx; cases hx
      · rw [if_neg hm] at hx
        rw [List.mem_singleton] at hx
        subst hx
        exact ⟨by simp only; omega, by simp only; omega, o3⟩
    · rw [if_neg he] at hx; cases hx
def shfW (t : Int) (x : S43) : S43 := ⟨wrap64 (x.f0 + t), wrap64 (x.f1 + t), x.f2⟩
theorem shf_back {t n : Int} (ht : 0 ≤ t) (hn : n ≤ 1000) : ∀ {ls : List S43}, (∀ x ∈ ls, 0 ≤ x.f0 ∧ x.f0 ≤ x.f1 ∧ x.f1 ≤ n) → (ls.map (shf t)).map (shfW t) = ls
  | [], _ => rfl
  | x :: ls, h => by
    have hx := h x (List.mem_cons_self ..)
    rw [List.map_cons, List.map_cons, shf_back ht hn fun y hy => h y (List.mem_cons_of_mem _ hy)]
    congr 1
    unfold shfW shf
    simp only
    rw [ws (by omega) (by omega), ws (by omega) (by omega), show x.f0 - t + t = x.f0 by omega, show x.f1 - t + t = x.f1 by omega]
theorem rd43_nat (l : List S43) {i : Nat} (hi : i < l.length) : rd_T43 l (i : Int) = l[i] := by unfold rd_T43; simp [List.getD, hi]
theorem rloop15 (ms : List S43) (hm : ms.length ≤ 100000) (t1 t2 : Int) (fo : Bool) : ∀ (r i : Nat) (acc : List S43), i + r = ms.length → acc.length ≤ i + 10 → Ev (fun k => stickfulref15_Lines.l0 k acc ms (i : Int) t1 t2 fo) (acc ++ (ms.drop i).map (shfW t2), 0) := by
  intro r
  induction r with
  | zero =>
    intro i acc hi ha
    rw [List.drop_of_length_le (by omega), List.map_nil, List.append_nil]
    refine Ev.step (f := fun _ => some (acc, 0)) (fun k => ?_) (Ev.now _)
    simp only [stickfulref15_Lines.l0]
    rw [if_neg (by omega)]
  | succ r ih =>
    intro i acc hi ha
    have ih := ih (i + 1) (acc ++ [shfW t2 ms[i]]) (by omega) (by simp; omega)
    rw [List.append_assoc, List.singleton_append, ← List.map_cons (f := shfW t2), ← List.drop_eq_getElem_cons (show i < ms.length by omega)] at ih
    refine Ev.step (fun k => ?_) ih
    simp only [stickfulref15_Lines.l0]
    rw [if_pos (by omega), if_pos (by omega), if_pos (by omega), w1 (by omega), rd43_nat ms (by omega)]
    rfl
theorem rfirst_ev {l0 l1 : List S46} (h0 : l0.length ≤ 900) (h1 : l1.length ≤ 900) (hl0 : ∀ c ∈ l0, okC c) (hl1 : ∀ c ∈ l1, okC c) {a0 a1 b0 b1 : Int} : Ev (fun k => stickfulref15_Lines.f k l0 l1 a0 a1 b0 b1) (FirstR l0 l1 a0 a1 b0 b1) := by
  have bad : Ev (fun k => stickfulref15_Lines.j0 k l0 l1 true a0 a1 b0 b1) ([], 2) := by
    refine Ev.step (f := fun _ => some ([], 2)) (fun k => ?_) (Ev.now _)
    simp only [stickfulref15_Lines.j0]
    rw [if_pos trivial]
  unfold stickfulref15_Lines.f FirstR
  refine Ev.bind (ralike_ev l0 l1 (by omega)) ?_
  by_cases ha : asL l0 l1 = true
  · refine Ev.congr (fun k => if_pos ha) ?_
    refine Ev.bind (rmay_ev l1 0 (by omega)) ?_
    by_cases hm : mayR l1 0 = true
    · refine Ev.congr (fun k => if_pos hm) ?_
      by_cases hb : b0 < 0
      · rw [if_neg (fun h => h.2.2 hb), decide_eq_true hb]
        exact bad
      · rw [if_pos ⟨ha, hm, hb⟩, decide_eq_false hb]
        have hlen := as_len ha
        have hbad : l1.any badTab = false := by
          unfold mayR at hm
          simp only [Bool.and_eq_true, Bool.not_eq_true'] at hm
          exact hm.1
        have e : ∀ k, stickfulref15_Lines.j0 (k + 1) l0 l1 false a0 a1 b0 b1 = ((stickfulref14_One.f k l0 0 a0 a1).bind fun bt387 => (if bt387.2.2.2 = 0 then ((some (([(⟨bt387.1, bt387.2.1, bt387.2.2.1⟩ : S43)] : List (S43)) : List (S43))).bind fun y392 => (if bt387.2.2.1 = true then (stickfulref15_Lines.j1 k l1 y392 false b0 b1 bt387.1 bt387.2.1 bt387.2.2.1) else (stickfulref15_Lines.j1 k l1 y392 (bt387.2.1 == (l0.length : Int)) b0 b1 bt387.1 bt387.2.1 bt387.2.2.1))) else (some (([] : List (S43)), bt387.2.2.2)))) := by
          intro k
          simp only [stickfulref15_Lines.j0]
          rw [if_neg (by decide)]
        refine Ev.step e (Ev.bind (rone_ev (by omega) hl0 (fr := 0) (by omega)) ?_)
        unfold TwoR
        by_cases he : (oneR l0 0 a0 a1).2.2.2 = 0
        · obtain ⟨o1, o2, o3, o4, o5⟩ := one_in (fr := 0) (by omega) he
          rw [if_pos he]
          refine Ev.congr (fun k => if_pos he) ?_
          refine Ev.bind (Ev.now _) ?_
          have hj : Ev (fun k => if (oneR l0 0 a0 a1).2.2.1 = true then (stickfulref15_Lines.j1 k l1 [⟨(oneR l0 0 a0 a1).1, (oneR l0 0 a0 a1).2.1, (oneR l0 0 a0 a1).2.2.1⟩] false b0 b1 (oneR l0 0 a0 a1).1 (oneR l0 0 a0 a1).2.1 (oneR l0 0 a0 a1).2.2.1) else (stickfulref15_Lines.j1 k l1 [⟨(oneR l0 0 a0 a1).1, (oneR l0 0 a0 a1).2.1, (oneR l0 0 a0 a1).2.2.1⟩] ((oneR l0 0 a0 a1).2.1 == (l0.length : Int)) b0 b1 (oneR l0 0 a0 a1).1 (oneR l0 0 a0 a1).2.1 (oneR l0 0 a0 a1).2.2.1))
              (if (oneR l0 0 a0 a1).2.2.1 = true ∨ (oneR l0 0 a0 a1).2.1 < (l0.length : Int) then
      (if (linesR l1 b0 b1 (l1.length + 2) (oneR l0 0 a0 a1).2.1.toNat b0 b1).2 = 0 then (⟨(oneR l0 0 a0 a1).1, (oneR l0 0 a0 a1).2.1, (oneR l0 0 a0 a1).2.2.1⟩ :: (linesR l1 b0 b1 (l1.length + 2) (oneR l0 0 a0 a1).2.1.toNat b0 b1).1, 0) else ([], (linesR l1 b0 b1 (l1.length + 2) (oneR l0 0 a0 a1).2.1.toNat b0 b1).2))
    else ([⟨(oneR l0 0 a0 a1).1, (oneR l0 0 a0 a1).2.1, (oneR l0 0 a0 a1).2.2.1⟩], 0)) := by
            generalize hT1 : (oneR l0 0 a0 a1).1 = T1 at *
            generalize hT2 : (oneR l0 0 a0 a1).2.1 = T2 at *
            generalize hF : (oneR l0 0 a0 a1).2.2.1 = Fo at *
            have more : Ev (fun k => stickfulref15_Lines.j1 k l1 [⟨T1, T2, Fo⟩] false b0 b1 T1 T2 Fo) (if (linesR l1 b0 b1 (l1.length + 2) T2.toNat b0 b1).2 = 0 then (⟨T1, T2, Fo⟩ :: (linesR l1 b0 b1 (l1.length + 2) T2.toNat b0 b1).1, 0) else ([], (linesR l1 b0 b1 (l1.length + 2) T2.toNat b0 b1).2)) := by
              have hd : (l1.drop T2.toNat).length = l1.length - T2.toNat := List.length_drop
              have hLR : LinesR (l1.drop T2.toNat) b0 b1 b0 b1 = ((linesR l1 b0 b1 (l1.length + 2) T2.toNat b0 b1).1.map (shf T2), (linesR l1 b0 b1 (l1.length + 2) T2.toNat b0 b1).2) := by
                unfold LinesR
                rw [if_neg hb, linesR_shift l1 hbad T2.toNat b0 b1 _ 0 b0 b1 (by omega), Nat.zero_add, show ((T2.toNat : Nat) : Int) = T2 by omega, lines_fuel l1 b0 b1 _ (l1.length + 2) T2.toNat b0 b1 (by omega) (by omega) (by omega)]
              have hL := rlines_ev (l := l1.drop T2.toNat) (by omega) (fun c hc => hl1 c (List.mem_of_mem_drop hc)) (w1_ := b0) (s1 := b1) (w2_ := b0) (s2 := b1)
              rw [hLR] at hL
              have hll := lines_len l1 b0 b1 (l1.length + 2) T2.toNat b0 b1
              have hli := lines_in l1 b0 b1 (l1.length + 2) T2.toNat b0 b1 (by omega)
              generalize linesR l1 b0 b1 (l1.length + 2) T2.toNat b0 b1 = R at hL hll hli ⊢
              have ej : ∀ k, stickfulref15_Lines.j1 (k + 1) l1 [⟨T1, T2, Fo⟩] false b0 b1 T1 T2 Fo = (stickfulref14_Lines.f k (l1.drop T2.toNat) b0 b1 b0 b1).bind fun bt399 => (if bt399.2 = 0 then (stickfulref15_Lines.l0 k [⟨T1, T2, Fo⟩] bt399.1 0 T1 T2 Fo) else (some (([] : List (S43)), bt399.2))) := by
                intro k
                simp only [stickfulref15_Lines.j1]
                rw [if_neg (by decide), if_pos (by omega), if_pos (by omega)]
              refine Ev.step ej (Ev.bind hL ?_)
              by_cases hz : R.2 = 0
              · rw [if_pos hz]
                refine Ev.congr (fun k => if_pos hz) ?_
                have hr := rloop15 (R.1.map (shf T2)) (by rw [List.length_map]; omega) T1 T2 Fo (R.1.map (shf T2)).length 0 [⟨T1, T2, Fo⟩] (by omega) (by simp)
                rw [List.drop_zero, shf_back (n := (l1.length : Int)) (by omega) (by omega) (fun x hx => by have := hli x hx; omega)] at hr
                exact hr
              · rw [if_neg hz]
                exact Ev.congr (fun k => if_neg hz) (Ev.now _)
            by_cases hf : Fo = true
            · rw [if_pos (.inl hf)]
              exact Ev.congr (fun k => if_pos hf) more
            · by_cases hlt : T2 < (l0.length : Int)
              · rw [if_pos (.inr hlt)]
                refine Ev.congr (fun k => if_neg hf) ?_
                rw [show (T2 == (l0.length : Int)) = false by rw [beq_eq_false_iff_ne]; omega]
                exact more
              · rw [if_neg (fun h => h.elim hf hlt)]
                refine Ev.congr (fun k => if_neg hf) ?_
                rw [show (T2 == (l0.length : Int)) = true by rw [beq_iff_eq]; omega]
                refine Ev.step (f := fun _ => some ([⟨T1, T2, Fo⟩], 0)) (fun k => ?_) (Ev.now _)
                simp only [stickfulref15_Lines.j1]
                rw [if_pos trivial]
          exact hj
        · rw [if_neg he]
          exact Ev.congr (fun k => if_neg he) (Ev.now _)
    · rw [if_neg (fun h => hm h.2.1)]
      exact Ev.congr (fun k => if_neg hm) bad
  · rw [if_neg (fun h => ha h.1)]
    exact Ev.congr (fun k => if_neg ha) bad
theorem great_ev {l0 l1 : List S46} (a b c d : Int) : stickfullaw15_great.f l0 l1 a b c d = some (decide ((l0.length : Int) > 80) || decide ((l1.length : Int) > 80)) := by
  unfold stickfullaw15_great.f
  by_cases h : (l0.length : Int) > 80
  · rw [if_pos h, decide_eq_true h]; rfl
  · rw [if_neg h, decide_eq_false h]; rfl
theorem first_len (l0 l1 : List S46) (h : l1.length ≤ 1000) (a0 a1 b0 b1 : Int) : (FirstR l0 l1 a0 a1 b0 b1).1.length ≤ 1010 := by
  unfold FirstR TwoR
  have hll := lines_len l1 b0 b1 (l1.length + 2) (oneR l0 0 a0 a1).2.1.toNat b0 b1
  split
  · split
    · split
      · split
        · simp only [List.length_cons]; omega
        · simp
      · simp
    · simp
  · simp
end Go.Proofs.Ytdmlnkgpjileaaa.PureF
namespace Go.Proofs.Ytdmlnkgpjileaaa.HFirst
open Go.RowKit Go.Proofs.YtdmlnkgpjileaaaW.PrintWords Go.Proofs.YtdmlnkgpjileaaaW.PrintLast Go.Proofs.YtdmlnkgpjileaaaW.PrintMore Go.Proofs.Ytdmlnkgpjileaaa.Hand
/-- What the law stickfullaw15_FirstLines asks of the plain functions. -/
def stickfullaw15_FirstLines.Pure : Prop := ∀ (x0 : S26), W26 x0 → ∃ k, stickfullaw15_FirstLines.f k x0.f0 x0.f1 x0.f2.f0 x0.f2.f1 x0.f3.f0 x0.f3.f1 = some true
end Go.Proofs.Ytdmlnkgpjileaaa.HFirst
namespace Go.Proofs.Ytdmlnkgpjileaaa.PureF
set_option linter.unusedVariables false
open Go.RowKit Go.Proofs.YtdmlnkgpjileaaaW.PrintWords Go.Proofs.YtdmlnkgpjileaaaW.PrintLast Go.Proofs.YtdmlnkgpjileaaaW.PrintMore Go.Proofs.Ytdmlnkgpjileaaa.Hand Go.Proofs.Ytdmlnkgpjileaaa.HFirst
theorem FirstLines : stickfullaw15_FirstLines.Pure := by
  intro x hx
  obtain ⟨⟨_, _, hw0⟩, ⟨_, _, hw1⟩, ha, hb⟩ := hx
  have hl0 : ∀ d ∈ x.f0, okC d := fun d hd => okC_of (hw0 d hd)
  have hl1 : ∀ d ∈ x.f1, okC d := fun d hd => okC_of (hw1 d hd)
  refine Ev.rounds (r := true) ?_
  show Ev (fun k => stickfullaw15_FirstLines.f k x.f0 x.f1 x.f2.f0 x.f2.f1 x.f3.f0 x.f3.f1) true
  unfold stickfullaw15_FirstLines.f
  refine Ev.bind (Ev.congr (fun k => great_ev _ _ _ _) (Ev.now _)) ?_
  by_cases hg : (decide ((x.f0.length : Int) > 80) || decide ((x.f1.length : Int) > 80)) = true
  · exact Ev.congr (fun k => if_pos hg) head_ev2
  · refine Ev.congr (fun k => if_neg hg) ?_
    simp only [Bool.or_eq_true, decide_eq_true_eq, not_or] at hg
    refine Ev.bind (pfirst_ev (by omega) (by omega) hl0 hl1 (i64_of ha.2) (i64_of hb.2)) ?_
    refine Ev.bind (rfirst_ev (by omega) (by omega) hl0 hl1) ?_
    refine Ev.bind (same43_ev _ (by have := first_len x.f0 x.f1 (by omega) x.f2.f0 x.f2.f1 x.f3.f0 x.f3.f1; omega)) ?_
    refine Ev.congr (fun k => if_pos rfl) ?_
    refine Ev.congr (fun k => if_pos rfl) ?_
    refine Ev.bind (a := asL x.f0 x.f1) (Ev.congr (fun k => rfl) (Ev.now _)) ?_
    refine Ev.bind (ralike_ev _ _ (by omega)) ?_
    refine Ev.congr (fun k => if_pos (by simp)) ?_
    exact head_ev2
end Go.Proofs.Ytdmlnkgpjileaaa.PureF
namespace Go.Proofs.Ytdmlnkgpjileaaa.Pure
theorem FirstLines : Go.Proofs.Ytdmlnkgpjileaaa.HFirst.stickfullaw15_FirstLines.Pure := Go.Proofs.Ytdmlnkgpjileaaa.PureF.FirstLines
end Go.Proofs.Ytdmlnkgpjileaaa.Pure
