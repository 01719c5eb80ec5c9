/- Plain laws of chapter 15: pens and roles, what fits, and the document's own answers. No condition of its own. -/
import Derived.Test.YtdmlnkgpjileaaaM3
import Derived.Test.YtdmlnkgpjileaaaHFirstCx4
import Derived.Test.YtdmlnkgpjileaaaHFirstCx5
import Derived.Test.YtdmlnkgpjileaaaHFirstCx6
import Derived.Test.YtdmlnkgpjileaaaHFirstCx7
import Derived.Test.YtdmlnkgpjileaaaHFirstCx8
import Derived.Test.YtdmlnkgpjileaaaHFirstCx10
import Derived.Test.YtdmlnkgpjileaaaHFirstCx11
import Derived.Test.YtdmlnkgpjileaaaHFirstCx12
import Derived.Test.YtdmlnkgpjileaaaHFirstCx13
import Derived.Test.YtdmlnkgpjileaaaHFirstCx14
import Derived.Test.YtdmlnkgpjileaaaHFirstCx16
import Derived.Test.YtdmlnkgpjileaaaHFirstCx18
import Derived.Test.YtdmlnkgpjileaaaHFirstCx20
import Derived.Test.YtdmlnkgpjileaaaHFirstCx21
import Derived.Test.YtdmlnkgpjileaaaHFirstCx22
import Derived.Test.YtdmlnkgpjileaaaSayFirstC
import Derived.Test.YtdmlnkgpjileaaaHFirstCx23
namespace Go.Proofs.Ytdmlnkgpjileaaa.PureF
open Go.RowKit Go.Proofs.YtdmlnkgpjileaaaW.PrintWords Go.Proofs.YtdmlnkgpjileaaaW.PrintLast Go.Proofs.YtdmlnkgpjileaaaW.PrintMore Go.Proofs.Ytdmlnkgpjileaaa.Hand Go.Proofs.Ytdmlnkgpjileaaa.HFirstC
def fits (x : Int) : Prop := -4611686018427387904 ≤ x ∧ x ≤ 4611686018427387904
instance (x : Int) : Decidable (fits x) := by unfold fits; exact inferInstance
def fitO (s : Int) : Option Int := if fits s then some s else none
/-- The pen behind a cell that may be. -/
def nxt (c : S46) (x : Int) : Option Int := if c.f0 = 4 then (if c.f3 = 0 then some x else fitO (x - x % c.f3 + c.f3)) else fitO (x + c.f3)
def nxtR (r : Int) (c : S46) (x : Int) : Option Int := if r = 1 then some x else nxt c x
/-- The pens behind cells. -/
def walk (rs : List Int) : List S46 → Nat → Int → Option (List Int)
  | [], _, _ => some []
  | c :: l, i, x => (nxtR (roleAt rs i) c x).bind fun y => (walk rs l (i + 1) y).map (y :: ·)
def pensR (rs : List Int) (l : List S46) (x : Int) : List Int × Int :=
  if l.any badTab then ([], 2) else if fits x then (match walk rs l 0 x with | some ys => (x :: ys, 0) | none => ([], 10)) else ([], 10)
def okC (c : S46) : Prop := in64 c.f3

theorem ws {x : Int} (h1 : -9223372036854775808 ≤ x) (h2 : x ≤ 9223372036854775807) : wrap64 x = x := by
  unfold wrap64
  omega
theorem sum_ok {l : List Int} (h : ∀ x ∈ l, in64 x) (hl : l.length ≤ 1000) : unit_Sum.f l = some (if fits l.sum then (l.sum, 0) else (0, 10)) := by
  unfold unit_Sum.f
  rw [if_pos ⟨h, by omega⟩]
  by_cases hf : fits l.sum
  · rw [if_pos hf]; exact if_pos hf
  · rw [if_neg hf]; exact if_neg hf
theorem in_of_fits {x : Int} (h : fits x) : in64 x := by unfold fits at h; unfold in64; omega
theorem tmod_cases {x d : Int} (hd : 0 < d) : (x.tmod d < 0 ∧ x % d = x.tmod d + d) ∨ (¬ x.tmod d < 0 ∧ x % d = x.tmod d) := by
  have h1 : 0 ≤ x % d := Int.emod_nonneg x (by omega)
  have h2 : x % d < d := Int.emod_lt_of_pos x hd
  rcases Int.le_total 0 x with hx | hx
  · right
    rw [Int.tmod_eq_emod_of_nonneg hx]
    exact ⟨by omega, rfl⟩
  · have e : x.tmod d = -((-x).tmod d) := by rw [Int.neg_tmod]; omega
    rw [Int.tmod_eq_emod_of_nonneg (show 0 ≤ -x by omega)] at e
    have h3 : 0 ≤ (-x) % d := Int.emod_nonneg (-x) (by omega)
    have h4 : (-x) % d < d := Int.emod_lt_of_pos (-x) hd
    have h5 : ((-x) % d + x % d) % d = 0 := by rw [← Int.add_emod]; simp [Int.add_left_neg]
    by_cases hz : (-x) % d = 0
    · right
      rw [hz] at h5 e
      rw [Int.zero_add, Int.emod_emod_of_dvd x (Int.dvd_refl d)] at h5
      omega
    · left
      have h6 : (-x) % d + x % d = d := by
        by_cases hc : (-x) % d + x % d < d
        · rw [Int.emod_eq_of_lt (by omega) hc] at h5
          omega
        · have : ((-x) % d + x % d - d) % d = 0 := by rw [Int.sub_emod_right]; exact h5
          rw [Int.emod_eq_of_lt (by omega) (by omega)] at this
          omega
      omega
theorem step_eq {c : S46} (hc : okC c) (hb : badTab c = false) {x : Int} (hx : fits x) : stepC c x = some (match nxt c x with | some y => (y, 0) | none => (0, 10)) := by
  have hx1 := in_of_fits hx
  have s1 : unit_Sum.f [x] = some (x, 0) := by
    rw [sum_ok (by simpa using hx1) (by simp)]
    simp only [List.sum_cons, List.sum_nil, Int.add_zero]
    rw [if_pos hx]
  unfold stepC tabs_Step.f nxt
  rw [s1]
  simp only [Option.bind_some]
  by_cases h4 : c.f0 = 4
  · rw [if_pos h4, if_pos h4]
    have h3 : ¬ c.f3 < 0 := by
      intro h
      unfold badTab at hb
      rw [h4, decide_eq_true h] at hb
      cases hb
    rw [decide_eq_false h3]
    simp only [tabs_Step.j0]
    rw [if_neg (by decide), if_pos h4, if_pos trivial]
    by_cases h0 : c.f3 = 0
    · rw [if_pos h0, if_pos h0]
    · rw [if_neg h0, if_neg h0]
      have hd : 0 < c.f3 := by omega
      have hi : c.f3 ≤ 9223372036854775807 := hc.2
      have hm1 : 0 ≤ x % c.f3 := Int.emod_nonneg x (by omega)
      have hm2 : x % c.f3 < c.f3 := Int.emod_lt_of_pos x hd
      have key : unit_Stop.f x c.f3 = some (if fits (x - x % c.f3 + c.f3) then (x - x % c.f3 + c.f3, 0) else (0, 10)) := by
        unfold unit_Stop.f
        rw [if_neg (by omega), if_neg h0]
        rcases tmod_cases (x := x) hd with ⟨ht, he⟩ | ⟨ht, he⟩
        · rw [if_pos ht, show wrap64 (x.tmod c.f3 + c.f3) = x % c.f3 by rw [he]; exact ws (by omega) (by omega), ws (x := -(x % c.f3)) (by omega) (by omega), sum_ok (by
            intro y hy
            simp at hy
            rcases hy with rfl | rfl | rfl
            · exact hx1
            · unfold in64; omega
            · exact hc) (by simp)]
          have es : [x, -(x % c.f3), c.f3].sum = x - x % c.f3 + c.f3 := by simp; omega
          rw [es]
          simp only [Option.bind_some]
        · rw [if_neg ht, ← he, ws (x := -(x % c.f3)) (by omega) (by omega), sum_ok (by
            intro y hy
            simp at hy
            rcases hy with rfl | rfl | rfl
            · exact hx1
            · unfold in64; omega
            · exact hc) (by simp)]
          have es : [x, -(x % c.f3), c.f3].sum = x - x % c.f3 + c.f3 := by simp; omega
          rw [es]
          simp only [Option.bind_some]
      rw [key]
      unfold fitO
      by_cases hf : fits (x - x % c.f3 + c.f3)
      · rw [if_pos hf, if_pos hf]; rfl
      · rw [if_neg hf, if_neg hf]; rfl
  · rw [if_neg h4, if_neg h4]
    simp only [tabs_Step.j0]
    rw [if_neg (by decide), if_neg h4, sum_ok (by
      intro y hy
      simp at hy
      rcases hy with rfl | rfl
      · exact hx1
      · exact hc) (by simp)]
    have es : [x, c.f3].sum = x + c.f3 := by simp
    rw [es]
    unfold fitO
    by_cases hf : fits (x + c.f3)
    · rw [if_pos hf, if_pos hf]; rfl
    · rw [if_neg hf, if_neg hf]; rfl
theorem nxt_fits {c : S46} {x y : Int} (hx : fits x) (h : nxt c x = some y) : fits y := by
  unfold nxt fitO at h
  split at h
  · split at h
    · cases h; exact hx
    · split at h
      · cases h; assumption
      · cases h
  · split at h
    · cases h; assumption
    · cases h
theorem nxtR_fits {r : Int} {c : S46} {x y : Int} (hx : fits x) (h : nxtR r c x = some y) : fits y := by
  unfold nxtR at h
  split at h
  · cases h; exact hx
  · exact nxt_fits hx h
theorem pen_eq {c : S46} (hc : okC c) (hb : badTab c = false) {r x : Int} (hx : fits x) : penOf c r x = some (match nxtR r c x with | some y => (y, 0) | none => (0, 10)) := by
  unfold penOf nxtR
  by_cases h : r = 1
  · rw [if_pos h, if_pos h]
  · rw [if_neg h, if_neg h]; exact step_eq hc hb hx
theorem lastE_cons {p : Int × Int} {ps : List (Int × Int)} (h : lastE ps = 10) : lastE (p :: ps) = 10 := by
  cases ps with
  | nil => cases h
  | cons q qs => exact h
theorem pensL_eq (rs : List Int) : ∀ (l : List S46) (i : Nat) (x : Int), (∀ c ∈ l, okC c ∧ badTab c = false) → fits x →
    ∃ ps, pensL rs l i x = some ps ∧ (match walk rs l i x with | some ys => ps = ys.map (fun y => (y, 0)) | none => lastE ps = 10)
  | [], i, x, _, _ => ⟨[], rfl, rfl⟩
  | c :: l, i, x, hl, hx => by
    obtain ⟨hc, hb⟩ := hl c (List.mem_cons_self ..)
    have hl2 : ∀ c ∈ l, okC c ∧ badTab c = false := fun d hd => hl d (List.mem_cons_of_mem _ hd)
    simp only [pensL, walk]
    rw [pen_eq hc hb hx]
    cases hn : nxtR (roleAt rs i) c x with
    | none => exact ⟨[(0, 10)], by simp, by simp [lastE]⟩
    | some y =>
      obtain ⟨ps, h1, h2⟩ := pensL_eq rs l (i + 1) y hl2 (nxtR_fits hx hn)
      refine ⟨(y, 0) :: ps, by simp [h1], ?_⟩
      simp only [Option.bind_some]
      cases hw : walk rs l (i + 1) y with
      | none => rw [hw] at h2; exact lastE_cons h2
      | some ys => rw [hw] at h2; simp only [Option.map_some]; rw [h2]; rfl
theorem pens_eq {l : List S46} {rs : List Int} {x : Int} (hlen : l.length ≤ 1000000000000) (hl : ∀ c ∈ l, okC c) (hx : in64 x) : tabs_Pens.f l rs x = some (pensR rs l x) := by
  unfold tabs_Pens.f pensR
  rw [if_pos hlen]
  by_cases hb : l.any badTab = true
  · rw [if_pos hb, if_pos hb]
  · rw [if_neg hb, if_neg hb]
    have s1 : unit_Sum.f [x] = some (if fits x then (x, 0) else (0, 10)) := by
      rw [sum_ok (by simpa using hx) (by simp)]
      simp
    rw [s1]
    by_cases hf : fits x
    · rw [if_pos hf, if_pos hf]
      simp only [Option.bind_some, if_true]
      have hl2 : ∀ c ∈ l, okC c ∧ badTab c = false := fun c hc => ⟨hl c hc, by
        cases h : badTab c with
        | false => rfl
        | true => exact absurd (List.any_eq_true.2 ⟨c, hc, h⟩) hb⟩
      obtain ⟨ps, h1, h2⟩ := pensL_eq rs l 0 x hl2 hf
      rw [h1]
      simp only [Option.bind_some]
      cases hw : walk rs l 0 x with
      | none => rw [hw] at h2; simp only at h2; rw [h2]; rfl
      | some ys =>
        rw [hw] at h2
        simp only at h2
        have hz : lastE ps = 0 := lastE_zero (fun q hq => by rw [h2] at hq; obtain ⟨y, _, rfl⟩ := List.mem_map.1 hq; rfl)
        rw [if_pos hz, h2, List.map_map]
        congr 2
        exact congrArg _ (List.map_id'' (fun _ => rfl) ys)
    · rw [if_neg hf, if_neg hf]
      simp
end Go.Proofs.Ytdmlnkgpjileaaa.PureF

namespace Go.Proofs.Ytdmlnkgpjileaaa.PureF
open Go.RowKit Go.Proofs.YtdmlnkgpjileaaaW.PrintWords Go.Proofs.YtdmlnkgpjileaaaW.PrintLast Go.Proofs.YtdmlnkgpjileaaaW.PrintMore Go.Proofs.Ytdmlnkgpjileaaa.Hand Go.Proofs.Ytdmlnkgpjileaaa.HFirstC
theorem i64_of {n : Int} (h : (Lit.int .i64 n).wf = true) : in64 n := by
  have h2 : IntKind.i64.min ≤ n ∧ n ≤ IntKind.i64.max := by simpa [Lit.wf] using h
  have e1 : IntKind.i64.min = -9223372036854775808 := rfl
  have e2 : IntKind.i64.max = 9223372036854775807 := rfl
  unfold in64
  omega
theorem okC_of {c : S46} (h : W46 c) : okC c := i64_of h.2.2.2.1
theorem head_ev : Ev (fun k => stickfullaw15_head.f k) true := Ev.of (fun k => stickfullaw15_head.mono k) (k := 100) (by kernel_rfl)
theorem head_ev2 : Ev (fun k => (stickfullaw15_head.f k).bind fun t => some t) true := Ev.bind head_ev (Ev.now true)
theorem w1 {n : Nat} (h : n ≤ 1000000000) : wrap64 ((n : Int) + 1) = ((n + 1 : Nat) : Int) := by rw [ws (by omega) (by omega)]; rfl
def lastD : Int → List Int → Int
  | x, [] => x
  | _, y :: ys => lastD y ys
theorem rd_last : ∀ (x : Int) (ys : List Int), rd (x :: ys) ((ys.length : Nat) : Int) = lastD x ys
  | x, [] => rfl
  | x, y :: ys => by
    rw [lastD, ← rd_last y ys]
    unfold rd
    simp [List.getD]
/-- What Pens tells: an error and no pens, or all pens. -/
theorem pensR_or (rs : List Int) (l : List S46) (x : Int) :
    (∃ e, e ≠ 0 ∧ (e = 2 ∨ e = 10) ∧ pensR rs l x = ([], e)) ∨ (∃ ys, pensR rs l x = (x :: ys, 0) ∧ walk rs l 0 x = some ys ∧ fits x ∧ l.any badTab = false) := by
  unfold pensR
  by_cases hb : l.any badTab = true
  · rw [if_pos hb]; exact .inl ⟨2, by decide, .inl rfl, rfl⟩
  · rw [if_neg hb]
    by_cases hf : fits x
    · rw [if_pos hf]
      cases walk rs l 0 x with
      | none => exact .inl ⟨10, by decide, .inr rfl, rfl⟩
      | some ys => exact .inr ⟨ys, rfl, rfl, hf, by simpa using hb⟩
    · rw [if_neg hf]; exact .inl ⟨10, by decide, .inr rfl, rfl⟩
end Go.Proofs.Ytdmlnkgpjileaaa.PureF

namespace Go.Proofs.Ytdmlnkgpjileaaa.PureF
set_option linter.unusedVariables false
set_option linter.unusedSimpArgs false
open Go.RowKit Go.Proofs.YtdmlnkgpjileaaaW.PrintWords Go.Proofs.YtdmlnkgpjileaaaW.PrintLast Go.Proofs.YtdmlnkgpjileaaaW.PrintMore Go.Proofs.Ytdmlnkgpjileaaa.Hand Go.Proofs.Ytdmlnkgpjileaaa.HFirstC
/-- The role of a cell behind cells that are blank or not, ahead of others. -/
def roleZ (a : Bool) (c : S46) (s : List S46) : Int :=
  if c.f0 = 1 ∧ (a = true ∨ s.all blankB = true) then 1 else if c.f0 = 2 ∧ s.all hangB = true then 2 else 0
def rolesZ : Bool → List S46 → List Int
  | _, [] => []
  | a, c :: s => roleZ a c s :: rolesZ (a && blankB c) s
theorem rolesZ_len : ∀ (a : Bool) (l : List S46), (rolesZ a l).length = l.length
  | _, [] => rfl
  | a, c :: s => by simp [rolesZ, rolesZ_len (a && blankB c) s]
theorem rd_nat (l : List S46) {i : Nat} (hi : i < l.length) : rd_T46 l (i : Int) = l[i] := by
  unfold rd_T46
  simp [List.getD, hi]
theorem rolesZ_get : ∀ (a : Bool) (l : List S46) (i : Nat) (hi : i < l.length), rd (rolesZ a l) (i : Int) = roleZ (a && (l.take i).all blankB) l[i] (l.drop (i + 1))
  | _, [], i, hi => by simp at hi
  | a, c :: s, 0, hi => by simp [rolesZ, rd]
  | a, c :: s, i + 1, hi => by
    have h := rolesZ_get (a && blankB c) s i (by simpa using hi)
    simp only [rolesZ]
    have e : rd (roleZ a c s :: rolesZ (a && blankB c) s) ((i + 1 : Nat) : Int) = rd (rolesZ (a && blankB c) s) (i : Int) := by
      unfold rd
      simp [List.getD]
    rw [e, h]
    simp [List.take_succ_cons, Bool.and_assoc]
/-- The ways from the front, and from the back. -/
theorem way_up (l : List S46) (p : S46 → Bool) : ∀ (n : Nat) (i : Int), 0 ≤ i → (l.length : Int) - i < n → ∀ j : Int, j ∈ wayL l p 1 n i ↔ i ≤ j ∧ j < (l.length : Int) ∧ ∀ m : Int, i ≤ m → m ≤ j → p (rd_T46 l m) = true
  | 0, i, h0, hn, j => by
    simp only [wayL, List.not_mem_nil, false_iff]
    rintro ⟨h1, h2, h3⟩
    omega
  | n + 1, i, h0, hn, j => by
    have ih := way_up l p n (i + 1) (by omega) (by omega) j
    simp only [wayL]
    by_cases hc : 0 ≤ i ∧ i < (l.length : Int) ∧ p (rd_T46 l i) = true
    · rw [if_pos hc, List.mem_cons, ih]
      constructor
      · rintro (rfl | ⟨h1, h2, h3⟩)
        · exact ⟨by omega, hc.2.1, fun m h4 h5 => by rw [show m = j by omega]; exact hc.2.2⟩
        · exact ⟨by omega, h2, fun m h4 h5 => by
            by_cases hm : m = i
            · rw [hm]; exact hc.2.2
            · exact h3 m (by omega) h5⟩
      · rintro ⟨h1, h2, h3⟩
        by_cases hj : j = i
        · exact .inl hj
        · exact .inr ⟨by omega, h2, fun m h4 h5 => h3 m (by omega) h5⟩
    · rw [if_neg hc]
      simp only [List.not_mem_nil, false_iff]
      rintro ⟨h1, h2, h3⟩
      exact hc ⟨h0, by omega, h3 i (by omega) (by omega)⟩
theorem way_down (l : List S46) (p : S46 → Bool) : ∀ (n : Nat) (i : Int), i < (l.length : Int) → -1 ≤ i → i + 1 < n → ∀ j : Int, j ∈ wayL l p (-1) n i ↔ 0 ≤ j ∧ j ≤ i ∧ ∀ m : Int, j ≤ m → m ≤ i → p (rd_T46 l m) = true
  | 0, i, h0, h1, hn, j => by omega
  | n + 1, i, h0, h1, hn, j => by
    simp only [wayL]
    by_cases hc : 0 ≤ i ∧ i < (l.length : Int) ∧ p (rd_T46 l i) = true
    · have ih := way_down l p n (i + -1) (by omega) (by omega) (by omega) j
      rw [if_pos hc, List.mem_cons, ih]
      constructor
      · rintro (rfl | ⟨h1, h2, h3⟩)
        · exact ⟨hc.1, by omega, fun m h4 h5 => by rw [show m = j by omega]; exact hc.2.2⟩
        · exact ⟨h1, by omega, fun m h4 h5 => by
            by_cases hm : m = i
            · rw [hm]; exact hc.2.2
            · exact h3 m h4 (by omega)⟩
      · rintro ⟨h1, h2, h3⟩
        by_cases hj : j = i
        · exact .inl hj
        · exact .inr ⟨h1, by omega, fun m h4 h5 => h3 m h4 (by omega)⟩
    · rw [if_neg hc]
      simp only [List.not_mem_nil, false_iff]
      rintro ⟨h1, h2, h3⟩
      exact hc ⟨by omega, h0, h3 i (by omega) (by omega)⟩
theorem markL_len (l : List S46) (kind role : Int) : ∀ (is out : List Int), (markL l kind role is out).length = out.length
  | [], out => rfl
  | i :: is, out => by
    have := markL_len l kind role is (if (rd_T46 l i).f0 = kind then out.set i.toNat role else out)
    unfold markL at this ⊢
    rw [List.foldl_cons, this]
    split <;> simp
theorem rd_set (out : List Int) (i j : Nat) (v : Int) (hj : j < out.length) : rd (out.set i v) (j : Int) = if i = j then v else rd out (j : Int) := by
  unfold rd
  simp only [Int.toNat_natCast, List.getD_eq_getElem?_getD, List.getElem?_set]
  by_cases h : i = j
  · subst h; simp [hj]
  · simp [h]
theorem markL_get (l : List S46) (kind role : Int) (j : Nat) : ∀ (is out : List Int), (∀ i ∈ is, 0 ≤ i) → j < out.length → rd (markL l kind role is out) (j : Int) = if (j : Int) ∈ is ∧ (rd_T46 l (j : Int)).f0 = kind then role else rd out (j : Int)
  | [], out, _, hj => by simp [markL]
  | i :: is, out, hi, hj => by
    have hi0 : 0 ≤ i := hi i (List.mem_cons_self ..)
    have ih := markL_get l kind role j is (if (rd_T46 l i).f0 = kind then out.set i.toNat role else out) (fun x hx => hi x (List.mem_cons_of_mem _ hx)) (by split <;> simpa using hj)
    have e : markL l kind role (i :: is) out = markL l kind role is (if (rd_T46 l i).f0 = kind then out.set i.toNat role else out) := rfl
    rw [e, ih]
    by_cases hm : (j : Int) ∈ is
    · simp only [hm, List.mem_cons, or_true, true_and]
      by_cases hk : (rd_T46 l (j : Int)).f0 = kind
      · rw [if_pos hk, if_pos hk]
      · rw [if_neg hk, if_neg hk]
        by_cases h2 : (rd_T46 l i).f0 = kind
        · rw [if_pos h2, rd_set _ _ _ _ hj, if_neg (fun h => hk (by rw [show (j : Int) = i by omega]; exact h2))]
        · rw [if_neg h2]
    · rw [if_neg (fun h => hm h.1)]
      by_cases hij : (j : Int) = i
      · subst hij
        by_cases hk : (rd_T46 l (j : Int)).f0 = kind
        · rw [if_pos hk, if_pos ⟨List.mem_cons_self .., hk⟩, Int.toNat_natCast, rd_set _ _ _ _ hj, if_pos rfl]
        · rw [if_neg hk, if_neg (fun h => hk h.2)]
      · have hnot : ¬ ((j : Int) ∈ i :: is ∧ (rd_T46 l (j : Int)).f0 = kind) := fun h => by
          rcases List.mem_cons.1 h.1 with h3 | h3
          · exact hij h3
          · exact hm h3
        rw [if_neg hnot]
        by_cases h2 : (rd_T46 l i).f0 = kind
        · rw [if_pos h2, rd_set _ _ _ _ hj, if_neg (by omega)]
        · rw [if_neg h2]
theorem all_take (l : List S46) (p : S46 → Bool) (j : Nat) (hj : j < l.length) : (∀ m : Int, 0 ≤ m → m ≤ (j : Int) → p (rd_T46 l m) = true) ↔ (l.take j).all p = true ∧ p l[j] = true := by
  rw [List.all_eq_true]
  constructor
  · intro h
    refine ⟨fun x hx => ?_, by have := h j (by omega) (by omega); rw [rd_nat l hj] at this; exact this⟩
    obtain ⟨i, hi, rfl⟩ := List.getElem_of_mem hx
    rw [List.length_take] at hi
    have := h (i : Int) (by omega) (by omega)
    rw [rd_nat l (by omega)] at this
    rw [List.getElem_take]
    exact this
  · rintro ⟨h1, h2⟩ m hm0 hm1
    obtain ⟨i, rfl⟩ := Int.eq_ofNat_of_zero_le hm0
    rw [rd_nat l (by omega)]
    by_cases hij : i = j
    · subst hij; exact h2
    · exact h1 _ (List.mem_take_iff_getElem.2 ⟨i, by omega, rfl⟩)
theorem all_drop (l : List S46) (p : S46 → Bool) (j : Nat) (hj : j < l.length) : (∀ m : Int, (j : Int) ≤ m → m ≤ (l.length : Int) - 1 → p (rd_T46 l m) = true) ↔ p l[j] = true ∧ (l.drop (j + 1)).all p = true := by
  rw [List.all_eq_true]
  constructor
  · intro h
    refine ⟨by have := h j (by omega) (by omega); rw [rd_nat l hj] at this; exact this, fun x hx => ?_⟩
    obtain ⟨i, hi, rfl⟩ := List.getElem_of_mem hx
    rw [List.length_drop] at hi
    have := h ((j + 1 + i : Nat) : Int) (by omega) (by omega)
    rw [rd_nat l (by omega)] at this
    rw [List.getElem_drop]
    exact this
  · rintro ⟨h1, h2⟩ m hm0 hm1
    obtain ⟨i, rfl⟩ := Int.eq_ofNat_of_zero_le (show 0 ≤ m by omega)
    rw [rd_nat l (by omega)]
    by_cases hij : i = j
    · subst hij; exact h1
    · refine h2 _ (List.mem_drop_iff_getElem.2 ⟨i - (j + 1), by omega, ?_⟩)
      congr 1
      omega
theorem blank_of1 {c : S46} (h : c.f0 = 1) : blankB c = true := by unfold blankB; simp [h]
theorem hang_of2 {c : S46} (h : c.f0 = 2) : hangB c = true := by unfold hangB; simp [h]
theorem rolesL_eq (l : List S46) : rolesL l = rolesZ true l := by
  have hlen : (rolesL l).length = l.length := by unfold rolesL; rw [markL_len, markL_len, markL_len, List.length_replicate]
  refine List.ext_getElem (by rw [hlen, rolesZ_len]) fun j h1 h2 => ?_
  have hj : j < l.length := by omega
  have e1 : ∀ (x : List Int) (h : j < x.length), x[j] = rd x (j : Int) := fun x h => by unfold rd; simp [List.getD, h]
  rw [e1 _ h1, e1 _ h2, rolesZ_get true l j hj]
  have hup : ∀ i ∈ wayL l blankB 1 (l.length + 1) 0, 0 ≤ i := fun i hi => ((way_up l blankB _ 0 (by omega) (by omega) i).1 hi).1
  have hdn : ∀ p, ∀ i ∈ wayL l p (-1) (l.length + 1) ((l.length : Int) - 1), 0 ≤ i := fun p i hi => ((way_down l p _ ((l.length : Int) - 1) (by omega) (by omega) (by omega) i).1 hi).1
  unfold rolesL
  rw [markL_get _ _ _ _ _ _ (hdn _) (by rw [markL_len, markL_len, List.length_replicate]; exact hj), markL_get _ _ _ _ _ _ (hdn _) (by rw [markL_len, List.length_replicate]; exact hj), markL_get _ _ _ _ _ _ hup (by rw [List.length_replicate]; exact hj)]
  have a1 := all_take l blankB j hj
  have a2 := all_drop l blankB j hj
  have a3 := all_drop l hangB j hj
  have q1 : (j : Int) ∈ wayL l hangB (-1) (l.length + 1) ((l.length : Int) - 1) ↔ (hangB l[j] = true ∧ (l.drop (j + 1)).all hangB = true) := (way_down l hangB (l.length + 1) ((l.length : Int) - 1) (by omega) (by omega) (by omega) (j : Int)).trans ⟨fun h => a3.1 h.2.2, fun h => ⟨by omega, by omega, a3.2 h⟩⟩
  have q2 : (j : Int) ∈ wayL l blankB (-1) (l.length + 1) ((l.length : Int) - 1) ↔ (blankB l[j] = true ∧ (l.drop (j + 1)).all blankB = true) := (way_down l blankB (l.length + 1) ((l.length : Int) - 1) (by omega) (by omega) (by omega) (j : Int)).trans ⟨fun h => a2.1 h.2.2, fun h => ⟨by omega, by omega, a2.2 h⟩⟩
  have q3 : (j : Int) ∈ wayL l blankB 1 (l.length + 1) 0 ↔ ((l.take j).all blankB = true ∧ blankB l[j] = true) := (way_up l blankB (l.length + 1) 0 (by omega) (by omega) (j : Int)).trans ⟨fun h => a1.1 h.2.2, fun h => ⟨by omega, by omega, a1.2 h⟩⟩
  have cond : ∀ {p q : Prop} [hp : Decidable p] [hq : Decidable q] (_ : p ↔ q) (a b : Int), @ite Int p hp a b = @ite Int q hq a b := by
    intro p q hp hq h a b
    by_cases hh : p
    · rw [if_pos hh, if_pos (h.1 hh)]
    · rw [if_neg hh, if_neg (fun x => hh (h.2 x))]
  have z : rd (List.replicate l.length (0 : Int)) (j : Int) = 0 := by unfold rd; simp [List.getD, hj]
  have ef : (rd_T46 l (j : Int)).f0 = l[j].f0 := by rw [rd_nat l hj]
  rw [cond (and_congr_left' q1), cond (and_congr_left' q2), cond (and_congr_left' q3), z]
  simp only [ef]
  unfold roleZ
  by_cases k1 : l[j].f0 = 1
  · have k2 : ¬ l[j].f0 = 2 := by omega
    have kb := blank_of1 k1
    simp only [k1, kb]
    by_cases c1 : (l.drop (j + 1)).all blankB = true <;> by_cases c2 : (l.take j).all blankB = true <;> simp [c1, c2]
  · by_cases k2 : l[j].f0 = 2
    · have kb := hang_of2 k2
      simp only [k2, kb]
      by_cases c1 : (l.drop (j + 1)).all hangB = true <;> simp [c1]
    · simp [k1, k2]
theorem roles_ev {l : List S46} (hl : l.length ≤ 100000) : trim_Roles.f l = some (rolesZ true l) := by
  unfold trim_Roles.f
  rw [if_pos (by omega), rolesL_eq]
/-- What hangs is gone. -/
def unH (r : Int) : Int := if r = 2 then 1 else r
theorem hangG_len (t : List Int) : ∀ n, (hangG t n).length = t.length
  | 0 => rfl
  | n + 1 => by
    simp only [hangG]
    split <;> simp [hangG_len t n]
theorem hangG_get (t : List Int) (j : Nat) (hj : j < t.length) : ∀ n, n ≤ t.length → rd (hangG t n) (j : Int) = if j < n then unH (rd t (j : Int)) else rd t (j : Int)
  | 0, _ => by simp [hangG]
  | n + 1, hn => by
    have ih := hangG_get t j hj n (by omega)
    have en : ∀ x : List Int, rdOf (0 : Int) x (n : Int) = rd x (n : Int) := fun x => rfl
    simp only [hangG]
    rw [en]
    by_cases hjn : j = n
    · subst hjn
      rw [if_neg (by omega)] at ih
      rw [ih, if_pos (show j < j + 1 by omega)]
      unfold unH
      by_cases h2 : rd t (j : Int) = 2
      · rw [if_pos h2, if_pos h2, rd_set _ _ _ _ (by rw [hangG_len]; exact hj), if_pos rfl]
      · rw [if_neg h2, if_neg h2, ih]
    · have e : (j < n + 1) = (j < n) := by apply propext; omega
      simp only [e]
      rw [← ih]
      split
      · rw [rd_set _ _ _ _ (by rw [hangG_len]; exact hj), if_neg (by omega)]
      · rfl
theorem hangG_map (t : List Int) : hangG t t.length = t.map unH := by
  refine List.ext_getElem (by rw [hangG_len, List.length_map]) fun j h1 h2 => ?_
  rw [List.length_map] at h2
  have := hangG_get t j h2 t.length (Nat.le_refl _)
  rw [if_pos h2] at this
  have e1 : ∀ (x : List Int) (h : j < x.length), x[j] = rd x (j : Int) := fun x h => by unfold rd; simp [List.getD, h]
  rw [List.getElem_map, e1 _ h1, this, e1 _ h2]
/-- The end of what is walked. -/
def endR (rs : List Int) (l : List S46) (x : Int) : Int × Int := if (pensR rs l x).2 = 0 then (lastD x (pensR rs l x).1.tail, 0) else (0, (pensR rs l x).2)
theorem walk_len : ∀ {rs : List Int} {l : List S46} {i : Nat} {x : Int} {ys : List Int}, walk rs l i x = some ys → ys.length = l.length
  | rs, [], i, x, ys, h => by simp only [walk, Option.some.injEq] at h; rw [← h]; rfl
  | rs, c :: l, i, x, ys, h => by
    simp only [walk] at h
    obtain ⟨y, _, h2⟩ := Option.bind_eq_some_iff.1 h
    obtain ⟨zs, h3, h4⟩ := Option.map_eq_some_iff.1 h2
    rw [← h4]
    simp [walk_len h3]
theorem end_tail {rs : List Int} {l : List S46} {x : Int} (hlen : l.length ≤ 100000) {bt : List Int × Int} (hb : bt = pensR rs l x) :
    (if bt.2 = 0 then (if 0 ≤ (wrap64 ((bt.1.length : Int) - 1)) then (if (wrap64 ((bt.1.length : Int) - 1)) < (bt.1.length : Int) then (some (rd bt.1 (wrap64 ((bt.1.length : Int) - 1)), (0 : Int))) else (none)) else (none)) else (some (0, bt.2))) = some (endR rs l x) := by
  subst hb
  unfold endR
  rcases pensR_or rs l x with ⟨e, he, _, hp⟩ | ⟨ys, hp, hw, _, _⟩
  · rw [hp, if_neg he, if_neg he]
  · rw [hp, if_pos rfl, if_pos rfl]
    have hy := walk_len hw
    have e1 : wrap64 (((x :: ys).length : Int) - 1) = (ys.length : Int) := by rw [ws (by simp only [List.length_cons]; omega) (by simp only [List.length_cons]; omega)]; simp only [List.length_cons]; omega
    simp only []
    rw [e1, if_pos (by omega), if_pos (by simp only [List.length_cons]; omega), rd_last]
    rfl
theorem end_eq {rs : List Int} {l : List S46} {x : Int} (hlen : l.length ≤ 100000) (hl : ∀ c ∈ l, okC c) (hx : in64 x) : tabs_End.f l rs x = some (endR rs l x) := by
  unfold tabs_End.f
  rw [pens_eq (by omega) hl hx]
  exact end_tail hlen rfl
theorem fits_eq {l : List S46} {x : Int} (hlen : l.length ≤ 100000) (hl : ∀ c ∈ l, okC c) (hx : in64 x) : trim_Fits.f l x = some (endR ((rolesZ true l).map unH) l x) := by
  unfold trim_Fits.f
  rw [roles_ev hlen, Option.bind_some, hangG_map, end_eq hlen hl hx]
  rfl
end Go.Proofs.Ytdmlnkgpjileaaa.PureF

namespace Go.Proofs.Ytdmlnkgpjileaaa.PureF
set_option linter.unusedVariables false
set_option linter.unusedSimpArgs false
open Go.RowKit Go.Proofs.YtdmlnkgpjileaaaW.PrintWords Go.Proofs.YtdmlnkgpjileaaaW.PrintLast Go.Proofs.YtdmlnkgpjileaaaW.PrintMore Go.Proofs.Ytdmlnkgpjileaaa.Hand Go.Proofs.Ytdmlnkgpjileaaa.HFirstC
theorem rd_int (l : List Int) {i : Nat} (hi : i < l.length) : rd l (i : Int) = l[i] := by unfold rd; simp [List.getD, hi]
def blkAt (l : List S46) (i : Nat) : Bool := (rd (rolesZ true l) (i : Int) == 1) || edgeB (rd_T46 l (i : Int))
def blkR (l : List S46) : Nat → Nat → Bool
  | 0, _ => true
  | r + 1, i => blkAt l i && blkR l r (i + 1)
theorem tedge (c : S46) : trim_edge.f c.f0 c.f1 c.f2 c.f3 c.f4 c.f5 = some (edgeB c) := edge_eq c
theorem tblank_l0 (l : List S46) (hlen : l.length ≤ 100000) : ∀ (r i : Nat), i + r = l.length → Ev (fun k => trim_Blank.l0 k l (rolesZ true l) ((rolesZ true l).length : Int) (i : Int)) (blkR l r i) := by
  have hz := rolesZ_len true l
  intro r
  induction r with
  | zero =>
    intro i hi
    refine Ev.step (f := fun _ => some true) (fun k => ?_) (Ev.now _)
    simp only [trim_Blank.l0]
    rw [if_neg (by omega)]
  | succ r ih =>
    intro i hi
    have h2 : ∀ k, trim_Blank.l0 (k + 1) l (rolesZ true l) ((rolesZ true l).length : Int) (i : Int) = if rd (rolesZ true l) (i : Int) = 1 then trim_Blank.l0 k l (rolesZ true l) ((rolesZ true l).length : Int) ((i + 1 : Nat) : Int) else (if edgeB (rd_T46 l (i : Int)) = true then trim_Blank.l0 k l (rolesZ true l) ((rolesZ true l).length : Int) ((i + 1 : Nat) : Int) else some false) := by
      intro k
      simp only [trim_Blank.l0]
      rw [if_pos (by omega), if_pos (by omega), if_pos (by omega), if_pos (show (i : Int) < (l.length : Int) by omega), tedge, Option.bind_some, w1 (by omega)]
    refine Ev.step h2 ?_
    simp only [blkR, blkAt]
    by_cases h1 : rd (rolesZ true l) (i : Int) = 1
    · rw [show (rd (rolesZ true l) (i : Int) == 1) = true by simpa using h1, Bool.true_or, Bool.true_and]
      exact Ev.congr (fun k => if_pos h1) (ih (i + 1) (by omega))
    · rw [show (rd (rolesZ true l) (i : Int) == 1) = false by simpa using h1, Bool.false_or]
      refine Ev.congr (fun k => if_neg h1) ?_
      by_cases he : edgeB (rd_T46 l (i : Int)) = true
      · rw [he, Bool.true_and]
        exact Ev.congr (fun k => if_pos rfl) (ih (i + 1) (by omega))
      · rw [show edgeB (rd_T46 l (i : Int)) = false by simpa using he, Bool.false_and]
        exact Ev.congr (fun k => if_neg (by decide)) (Ev.now _)
theorem tblank_ev (l : List S46) (hlen : l.length ≤ 100000) : Ev (fun k => trim_Blank.f k l) (blkR l l.length 0) := by
  unfold trim_Blank.f
  rw [roles_ev hlen]
  exact tblank_l0 l hlen l.length 0 (by omega)
end Go.Proofs.Ytdmlnkgpjileaaa.PureF
namespace Go.Proofs.Ytdmlnkgpjileaaa.PureF
set_option linter.unusedVariables false
set_option linter.unusedSimpArgs false
open Go.RowKit Go.Proofs.YtdmlnkgpjileaaaW.PrintWords Go.Proofs.YtdmlnkgpjileaaaW.PrintLast Go.Proofs.YtdmlnkgpjileaaaW.PrintMore Go.Proofs.Ytdmlnkgpjileaaa.Hand Go.Proofs.Ytdmlnkgpjileaaa.HFirstC
theorem seg_mem {l : List S46} {a b : Int} {c : S46} (h : c ∈ segL l a b) : c ∈ l := List.mem_of_mem_take (List.mem_of_mem_drop h)
theorem seg_len (l : List S46) (a b : Int) : (segL l a b).length ≤ l.length := by
  unfold segL
  rw [List.length_drop, List.length_take]
  omega
def bl (s : List S46) : Bool := blkR s s.length 0
/-- Whether cells, and a place, may be. -/
def mayR (l : List S46) (fr : Int) : Bool := !l.any badTab && (decide (0 ≤ fr) && decide (fr ≤ (l.length : Int)))
theorem bad_iff (c : S46) : badTab c = true ↔ c.f0 = 4 ∧ c.f3 < 0 := by unfold badTab; simp
theorem may_end (l : List S46) (fr : Int) (h : l.any badTab = false) : (if fr ≥ 0 then (some (decide (fr ≤ (l.length : Int)))) else (some false)) = some (mayR l fr) := by
  unfold mayR
  rw [h]
  by_cases h0 : 0 ≤ fr
  · rw [if_pos h0, decide_eq_true h0]; rfl
  · rw [if_neg h0, decide_eq_false h0]; rfl
theorem any_snoc {l : List S46} {i : Nat} (hi : i < l.length) : (l.take (i + 1)).any badTab = ((l.take i).any badTab || badTab l[i]) := by
  rw [List.take_add_one, List.any_append, List.getElem?_eq_getElem hi]
  simp
theorem pmay_l0 (l : List S46) (fr : Int) (hlen : l.length ≤ 100000) : ∀ (r i : Nat), i + r = l.length → (l.take i).any badTab = false → Ev (fun k => fill_may.l0 k l fr l (l.length : Int) (i : Int)) (mayR l fr) := by
  intro r
  induction r with
  | zero =>
    intro i hi hb
    rw [List.take_of_length_le (by omega)] at hb
    refine Ev.step (f := fun _ => some (mayR l fr)) (fun k => ?_) (Ev.now _)
    simp only [fill_may.l0]
    rw [if_neg (by omega)]
    exact may_end l fr hb
  | succ r ih =>
    intro i hi hb
    by_cases hc : badTab l[i] = true
    · have h2 := (bad_iff _).1 hc
      have e : mayR l fr = false := by
        unfold mayR
        rw [List.any_eq_true.2 ⟨l[i], List.getElem_mem _, hc⟩]; rfl
      rw [e]
      refine Ev.step (f := fun _ => some false) (fun k => ?_) (Ev.now _)
      simp only [fill_may.l0]
      rw [if_pos (by omega), if_pos (by omega), if_pos (by omega), rd_nat l (by omega), if_pos h2.1, if_pos h2.2]
    · refine Ev.step (fun k => ?_) (ih (i + 1) (by omega) (by rw [any_snoc (by omega), hb]; simpa using hc))
      simp only [fill_may.l0]
      rw [if_pos (by omega), if_pos (by omega), if_pos (by omega), rd_nat l (by omega), w1 (by omega)]
      by_cases h4 : l[i].f0 = 4
      · rw [if_pos h4, if_neg (fun h => hc ((bad_iff _).2 ⟨h4, h⟩))]
      · rw [if_neg h4]
theorem pmay_ev (l : List S46) (fr : Int) (hlen : l.length ≤ 100000) : Ev (fun k => fill_may.f k l fr) (mayR l fr) := pmay_l0 l fr hlen l.length 0 (by omega) rfl
/-- The last end from a place on, and whether it is forced. -/
def last1 (l : List S46) : Nat → Nat → Int × Bool
  | 0, i => ((i : Int), true)
  | r + 1, i => if (rd_T46 l (i : Int)).f0 = 8 then last1 l r (i + 1) else ((i : Int), true)
def last0 (l : List S46) : Nat → Nat → Int × Bool
  | 0, _ => ((l.length : Int), false)
  | r + 1, i => if (rd_T46 l (i : Int)).f0 = 5 then last1 l r (i + 1) else last0 l r (i + 1)
def lastR (l : List S46) (fr : Nat) : Int × Bool := last0 l (l.length - fr) fr
theorem last1_le (l : List S46) : ∀ (r i : Nat), i + r = l.length → (i : Int) ≤ (last1 l r i).1 ∧ (last1 l r i).1 ≤ (l.length : Int)
  | 0, i, h => by simp only [last1]; omega
  | r + 1, i, h => by
    simp only [last1]
    split
    · have := last1_le l r (i + 1) (by omega)
      omega
    · simp only; omega
theorem last0_le (l : List S46) : ∀ (r i : Nat), i + r = l.length → (last0 l r i).1 ≤ (l.length : Int) ∧ (0 < r → (i : Int) < (last0 l r i).1) ∧ ((last0 l r i).2 = false → (last0 l r i).1 = (l.length : Int)) ∧ (r = 0 → (last0 l r i).2 = false)
  | 0, i, h => by simp only [last0]; simp
  | r + 1, i, h => by
    simp only [last0]
    split
    · have := last1_le l r (i + 1) (by omega)
      have e : ∀ (r i : Nat), (last1 l r i).2 = true := by
        intro r
        induction r with
        | zero => intro i; rfl
        | succ r ih => intro i; simp only [last1]; split <;> first | exact ih _ | rfl
      refine ⟨this.2, fun _ => by omega, fun hf => (by rw [e] at hf; cases hf), fun hr => (by omega)⟩
    · obtain ⟨g1, g2, g3, g4⟩ := last0_le l r (i + 1) (by omega)
      refine ⟨g1, fun _ => ?_, g3, fun hr => by omega⟩
      cases r with
      | zero => simp only [last0]; omega
      | succ r => have := g2 (by omega); omega
theorem plast1 (l : List S46) (hlen : l.length ≤ 100000) : ∀ (r i : Nat), i + r = l.length → Ev (fun k => fill_last.l1 k l (i : Int)) (last1 l r i) := by
  intro r
  induction r with
  | zero =>
    intro i hi
    refine Ev.step (f := fun _ => some ((i : Int), true)) (fun k => ?_) (Ev.now _)
    simp only [fill_last.l1]
    rw [if_neg (by omega)]
  | succ r ih =>
    intro i hi
    simp only [last1]
    have e : ∀ k, fill_last.l1 (k + 1) l (i : Int) = if (rd_T46 l (i : Int)).f0 = 8 then fill_last.l1 k l ((i + 1 : Nat) : Int) else some ((i : Int), true) := by
      intro k
      simp only [fill_last.l1]
      rw [if_pos (by omega), if_pos (by omega), w1 (by omega)]
    refine Ev.step e ?_
    by_cases h8 : (rd_T46 l (i : Int)).f0 = 8
    · rw [if_pos h8]; exact Ev.congr (fun k => if_pos h8) (ih (i + 1) (by omega))
    · rw [if_neg h8]; exact Ev.congr (fun k => if_neg h8) (Ev.now _)
theorem plast0 (l : List S46) (hlen : l.length ≤ 100000) : ∀ (r i : Nat), i + r = l.length → Ev (fun k => fill_last.l0 k l (i : Int)) (last0 l r i) := by
  intro r
  induction r with
  | zero =>
    intro i hi
    refine Ev.step (f := fun _ => some ((l.length : Int), false)) (fun k => ?_) (Ev.now _)
    simp only [fill_last.l0]
    rw [if_neg (by omega)]
  | succ r ih =>
    intro i hi
    simp only [last0]
    have e : ∀ k, fill_last.l0 (k + 1) l (i : Int) = if (rd_T46 l (i : Int)).f0 = 5 then fill_last.l1 k l ((i + 1 : Nat) : Int) else fill_last.l0 k l ((i + 1 : Nat) : Int) := by
      intro k
      simp only [fill_last.l0]
      rw [if_pos (by omega), if_pos (by omega), w1 (by omega)]
    refine Ev.step e ?_
    by_cases h5 : (rd_T46 l (i : Int)).f0 = 5
    · rw [if_pos h5]; exact Ev.congr (fun k => if_pos h5) (plast1 l hlen r (i + 1) (by omega))
    · rw [if_neg h5]; exact Ev.congr (fun k => if_neg h5) (ih (i + 1) (by omega))
theorem plast_ev (l : List S46) (hlen : l.length ≤ 100000) (fr : Nat) (h : fr ≤ l.length) : Ev (fun k => fill_last.f k l (fr : Int)) (lastR l fr) := plast0 l hlen (l.length - fr) fr (by omega)
/-- The ends of a kind, from a place on. -/
def endsR (l : List S46) (fr te : Int) (is : S46 → Bool) : Nat → Int → List Int
  | 0, _ => []
  | n + 1, p => if p < te then (if is (rd_T46 l p) = true then (if bl (segL l fr p) = true then endsR l fr te is n (p + 1) else p :: endsR l fr te is n (p + 1)) else endsR l fr te is n (p + 1)) else []
theorem endsO_ev (l : List S46) (hlen : l.length ≤ 100000) (fr te : Int) (is : S46 → Bool) : ∀ (n : Nat) (p : Int), Ev (fun k => endsO k l fr te is n p) (endsR l fr te is n p)
  | 0, _ => Ev.now _
  | n + 1, p => by
    have ih := endsO_ev l hlen fr te is n (p + 1)
    simp only [endsO, endsR]
    by_cases hp : p < te
    · rw [if_pos hp]
      refine Ev.congr (fun k => if_pos hp) ?_
      by_cases hi : is (rd_T46 l p) = true
      · rw [if_pos hi]
        refine Ev.congr (fun k => if_pos hi) ?_
        refine Ev.bind (tblank_ev (segL l fr p) (Nat.le_trans (seg_len l fr p) hlen)) (Ev.bind ih ?_)
        show Ev _ (if bl (segL l fr p) = true then _ else _)
        by_cases hb : bl (segL l fr p) = true
        · rw [if_pos hb]; exact Ev.congr (fun k => congrArg some (if_pos hb)) (Ev.now _)
        · rw [if_neg hb]; exact Ev.congr (fun k => congrArg some (if_neg hb)) (Ev.now _)
      · rw [if_neg hi]
        exact Ev.congr (fun k => if_neg hi) ih
    · rw [if_neg hp]
      exact Ev.congr (fun k => if_neg hp) (Ev.now _)
def EndsR (l : List S46) (fr : Nat) : List Int × List Int × Int :=
  (endsR l (fr : Int) (lastR l fr).1 (fun c => c.f4) (l.length + 1) ((fr : Int) + 1) ++ [(lastR l fr).1], endsR l (fr : Int) (lastR l fr).1 (fun c => c.f5) (l.length + 1) ((fr : Int) + 1), 0)
theorem pends_ev (l : List S46) (hlen : l.length ≤ 100000) (fr : Nat) (hfr : fr ≤ l.length) : Ev (fun k => fill_Ends.f k l (fr : Int)) (if mayR l (fr : Int) = true then EndsR l fr else ([], [], 2)) := by
  unfold fill_Ends.f
  refine Ev.bind (pmay_ev l _ hlen) ?_
  by_cases hm : mayR l (fr : Int) = true
  · rw [if_pos hm]
    refine Ev.congr (fun k => if_pos hm) (Ev.bind (plast_ev l hlen fr hfr) ?_)
    have hl := last0_le l (l.length - fr) fr (by omega)
    refine Ev.congr (fun k => if_pos ⟨by omega, by omega, hl.1, by omega⟩) ?_
    exact Ev.bind (endsO_ev l hlen _ _ _ _ _) (Ev.bind (endsO_ev l hlen _ _ _ _ _) (Ev.now _))
  · rw [if_neg hm]
    exact Ev.congr (fun k => if_neg hm) (Ev.now _)
end Go.Proofs.Ytdmlnkgpjileaaa.PureF
namespace Go.Proofs.Ytdmlnkgpjileaaa.PureF
set_option linter.unusedVariables false
set_option linter.unusedSimpArgs false
open Go.RowKit Go.Proofs.YtdmlnkgpjileaaaW.PrintWords Go.Proofs.YtdmlnkgpjileaaaW.PrintLast Go.Proofs.YtdmlnkgpjileaaaW.PrintMore Go.Proofs.Ytdmlnkgpjileaaa.Hand Go.Proofs.Ytdmlnkgpjileaaa.HFirstC
/-- Whether a line fits. -/
def fitR (l : List S46) (fr wd st p : Int) : Bool × Int := (decide ((endR ((rolesZ true (segL l fr p)).map unH) (segL l fr p) st).1 ≤ wd), (endR ((rolesZ true (segL l fr p)).map unH) (segL l fr p) st).2)
theorem fitO1_eq {l : List S46} (hlen : l.length ≤ 100000) (hl : ∀ c ∈ l, okC c) {fr wd st p : Int} (hst : in64 st) (h : 0 ≤ fr ∧ fr ≤ p ∧ p ≤ (l.length : Int)) : fitO1 l fr wd st p = some (fitR l fr wd st p) := by
  unfold fitO1
  rw [if_pos h, fits_eq (Nat.le_trans (seg_len l fr p) hlen) (fun c hc => hl c (seg_mem hc)) hst]
  rfl
def reachR (f : Int → Bool × Int) : List Int → Bool → Int → Int × Bool × Int
  | [], _, p => (p, true, 0)
  | q :: qs, first, p => if (f q).2 = 0 then (if (f q).1 = true then reachR f qs false q else (if first = true then (q, false, 0) else (p, true, 0))) else (0, false, (f q).2)
theorem reachO_eq {F : Int → Option (Bool × Int)} {f : Int → Bool × Int} : ∀ (xs : List Int) (b : Bool) (p : Int), (∀ q ∈ xs, F q = some (f q)) → reachO F xs b p = some (reachR f xs b p)
  | [], _, _, _ => rfl
  | q :: qs, b, p, h => by
    simp only [reachO, reachR]
    rw [h q (List.mem_cons_self ..), Option.bind_some]
    by_cases h0 : (f q).2 = 0
    · rw [if_pos h0, if_pos h0]
      by_cases h1 : (f q).1 = true
      · rw [if_pos h1, if_pos h1]; exact reachO_eq qs false q (fun x hx => h x (List.mem_cons_of_mem _ hx))
      · rw [if_neg h1, if_neg h1]
        by_cases hb : b = true
        · rw [if_pos hb, if_pos hb]
        · rw [if_neg hb, if_neg hb]
    · rw [if_neg h0, if_neg h0]
/-- How many of some ends fit, one after the other. -/
def runR (f : Int → Bool × Int) : List Int → Nat → Int × Int
  | [], n => ((n : Int), 0)
  | q :: qs, n => if (f q).2 = 0 then (if (f q).1 = true then runR f qs (n + 1) else ((n : Int), 0)) else (0, (f q).2)
theorem reach_more (f : Int → Bool × Int) (L : List Int) : ∀ (xs : List Int) (n : Nat) (p : Int), L.drop (n + 1) = xs → n < L.length → rd L (n : Int) = p →
    ((runR f xs (n + 1)).2 ≠ 0 ∧ reachR f xs false p = (0, false, (runR f xs (n + 1)).2)) ∨ ((runR f xs (n + 1)).2 = 0 ∧ ∃ j : Nat, j < L.length ∧ (runR f xs (n + 1)).1 = ((j + 1 : Nat) : Int) ∧ reachR f xs false p = (rd L (j : Int), true, 0))
  | [], n, p, h, hn, hp => .inr ⟨rfl, n, hn, rfl, by rw [hp]; rfl⟩
  | q :: qs, n, p, h, hn, hp => by
    have hn1 : n + 1 < L.length := by
      rcases Nat.lt_or_ge (n + 1) L.length with h2 | h2
      · exact h2
      · rw [List.drop_of_length_le h2] at h; cases h
    rw [List.drop_eq_getElem_cons hn1] at h
    obtain ⟨h1, h2⟩ := List.cons.inj h
    simp only [runR, reachR]
    by_cases h0 : (f q).2 = 0
    · rw [if_pos h0, if_pos h0]
      by_cases hg : (f q).1 = true
      · rw [if_pos hg, if_pos hg]
        exact reach_more f L qs (n + 1) q h2 hn1 (by rw [rd_int L hn1]; exact h1)
      · rw [if_neg hg, if_neg hg, if_neg (by decide)]
        exact .inr ⟨rfl, n, hn, rfl, by rw [hp]⟩
    · rw [if_neg h0, if_neg h0]
      exact .inl ⟨h0, rfl⟩
theorem reach_run (f : Int → Bool × Int) {L : List Int} (hL : 0 < L.length) :
    ((runR f L 0).2 ≠ 0 ∧ reachR f L true 0 = (0, false, (runR f L 0).2)) ∨ ((runR f L 0).2 = 0 ∧ (runR f L 0).1 = 0 ∧ reachR f L true 0 = (rd L 0, false, 0)) ∨ ((runR f L 0).2 = 0 ∧ ∃ j : Nat, j < L.length ∧ (runR f L 0).1 = ((j + 1 : Nat) : Int) ∧ reachR f L true 0 = (rd L (j : Int), true, 0)) := by
  cases L with
  | nil => simp at hL
  | cons q qs =>
    simp only [runR, reachR]
    by_cases h0 : (f q).2 = 0
    · rw [if_pos h0, if_pos h0]
      by_cases hg : (f q).1 = true
      · rw [if_pos hg, if_pos hg]
        rcases reach_more f (q :: qs) qs 0 q rfl (by simp) rfl with h | ⟨h, j, h1, h2, h3⟩
        · exact .inl h
        · exact .inr (.inr ⟨h, j, h1, h2, h3⟩)
      · rw [if_neg hg, if_neg hg, if_pos trivial]
        exact .inr (.inl ⟨rfl, rfl, rfl⟩)
    · rw [if_neg h0, if_neg h0]
      exact .inl ⟨h0, rfl⟩
theorem ends_in (l : List S46) (fr te : Int) (is : S46 → Bool) : ∀ (n : Nat) (p : Int), ∀ q ∈ endsR l fr te is n p, p ≤ q ∧ q < te
  | 0, _, q, h => by cases h
  | n + 1, p, q, h => by
    have ih := ends_in l fr te is n (p + 1) q
    simp only [endsR] at h
    split at h
    · split at h
      · split at h
        · have := ih h; omega
        · rcases List.mem_cons.1 h with rfl | h
          · omega
          · have := ih h; omega
      · have := ih h; omega
    · cases h
theorem ends_len (l : List S46) (fr te : Int) (is : S46 → Bool) : ∀ (n : Nat) (p : Int), (endsR l fr te is n p).length ≤ n
  | 0, _ => Nat.le_refl _
  | n + 1, p => by
    have ih := ends_len l fr te is n (p + 1)
    simp only [endsR]
    split
    · split
      · split
        · omega
        · simp only [List.length_cons]; omega
      · omega
    · simp
theorem last_pos (l : List S46) {fr : Nat} (h : fr ≤ l.length) : (fr : Int) ≤ (lastR l fr).1 ∧ (lastR l fr).1 ≤ (l.length : Int) ∧ (fr < l.length → (fr : Int) < (lastR l fr).1) ∧ (fr = l.length → lastR l fr = ((l.length : Int), false)) := by
  obtain ⟨g1, g2, g3, g4⟩ := last0_le l (l.length - fr) fr (by omega)
  refine ⟨?_, g1, fun h2 => g2 (by omega), fun h2 => ?_⟩
  · by_cases h2 : fr < l.length
    · have := g2 (by omega)
      unfold lastR
      omega
    · have : l.length - fr = 0 := by omega
      unfold lastR
      rw [this]
      simp only [last0]
      omega
  · unfold lastR
    rw [h2, Nat.sub_self]
    rfl
theorem E1_in (l : List S46) {fr : Nat} (h : fr ≤ l.length) : ∀ q ∈ (EndsR l fr).1, (fr : Int) ≤ q ∧ q ≤ (l.length : Int) ∧ (fr < l.length → (fr : Int) < q) := by
  obtain ⟨p1, p2, p3, _⟩ := last_pos l h
  intro q hq
  unfold EndsR at hq
  simp only at hq
  rcases List.mem_append.1 hq with hq | hq
  · have := ends_in l _ _ _ _ _ q hq
    exact ⟨by omega, by omega, fun _ => by omega⟩
  · rw [List.mem_singleton] at hq
    rw [hq]
    exact ⟨p1, p2, p3⟩
theorem E2_in (l : List S46) {fr : Nat} (h : fr ≤ l.length) : ∀ q ∈ (EndsR l fr).2.1, (fr : Int) < q ∧ q ≤ (l.length : Int) ∧ fr < l.length := by
  obtain ⟨p1, p2, p3, p4⟩ := last_pos l h
  intro q hq
  have := ends_in l _ _ _ _ _ q hq
  refine ⟨by omega, by omega, ?_⟩
  rcases Nat.lt_or_ge fr l.length with h2 | h2
  · exact h2
  · have e := p4 (by omega)
    rw [e] at this
    simp only at this
    omega
theorem E1_pos (l : List S46) (fr : Nat) : 0 < (EndsR l fr).1.length ∧ (EndsR l fr).1.length ≤ l.length + 2 := by
  have := ends_len l (fr : Int) (lastR l fr).1 (fun c => c.f4) (l.length + 1) ((fr : Int) + 1)
  unfold EndsR
  simp only [List.length_append, List.length_cons, List.length_nil]
  omega
theorem E2_len (l : List S46) (fr : Nat) : (EndsR l fr).2.1.length ≤ l.length + 1 := ends_len l _ _ _ _ _
theorem near_in {E : List Int} {p : Int} : ∀ q ∈ nearL E p, q ∈ E ∧ q < p := fun q h => by
  unfold nearL at h
  have := List.mem_filter.1 h
  exact ⟨this.1, by simpa using this.2⟩
/-- What one line's end is, or the error. -/
def toR (l : List S46) (fr : Nat) (wd st : Int) : Int × Int :=
  if (reachR (fitR l fr wd st) (EndsR l fr).1 true 0).2.2 = 0 ∧ (reachR (fitR l fr wd st) (EndsR l fr).1 true 0).2.1 = false ∧ 0 < (nearL (EndsR l fr).2.1 (reachR (fitR l fr wd st) (EndsR l fr).1 true 0).1).length then
    ((reachR (fitR l fr wd st) (nearL (EndsR l fr).2.1 (reachR (fitR l fr wd st) (EndsR l fr).1 true 0).1) true 0).1, (reachR (fitR l fr wd st) (nearL (EndsR l fr).2.1 (reachR (fitR l fr wd st) (EndsR l fr).1 true 0).1) true 0).2.2)
  else ((reachR (fitR l fr wd st) (EndsR l fr).1 true 0).1, (reachR (fitR l fr wd st) (EndsR l fr).1 true 0).2.2)
def oneR (l : List S46) (fr : Nat) (wd st : Int) : Int × Int × Bool × Int :=
  if mayR l (fr : Int) = true then (if wd < 0 then (0, 0, false, 2) else (if (toR l fr wd st).2 = 0 then ((fr : Int), (toR l fr wd st).1, ((lastR l fr).2 && ((toR l fr wd st).1 == (lastR l fr).1)), 0) else (0, 0, false, (toR l fr wd st).2))) else (0, 0, false, 2)
theorem pone_ev {l : List S46} (hlen : l.length ≤ 100000) (hl : ∀ c ∈ l, okC c) {fr : Nat} (hfr : fr ≤ l.length) {wd st : Int} (hst : in64 st) : Ev (fun k => fill_One.f k l (fr : Int) wd st) (oneR l fr wd st) := by
  unfold fill_One.f oneR
  refine Ev.bind (pends_ev l hlen fr hfr) ?_
  by_cases hm : mayR l (fr : Int) = true
  · rw [if_pos hm, if_pos hm]
    refine Ev.congr (fun k => if_pos rfl) ?_
    by_cases hw : wd < 0
    · rw [if_pos hw]; exact Ev.congr (fun k => if_pos hw) (Ev.now _)
    · rw [if_neg hw]
      have hl2 := E2_len l fr
      refine Ev.congr (fun k => (if_neg hw).trans (if_pos (by omega))) ?_
      have hF : ∀ q, (fr : Int) ≤ q ∧ q ≤ (l.length : Int) → fitO1 l (fr : Int) wd st q = some (fitR l (fr : Int) wd st q) := fun q h => fitO1_eq hlen hl hst ⟨by omega, h.1, h.2⟩
      have r1 := reachO_eq (EndsR l fr).1 true 0 (fun q hq => hF q (by have := E1_in l hfr q hq; omega))
      rw [r1]
      refine Ev.bind (a := reachR (fitR l (fr : Int) wd st) (EndsR l fr).1 true 0) (Ev.now _) ?_
      refine Ev.bind (a := toR l fr wd st) (Ev.congr (fun k => ?_) (Ev.now _)) ?_
      · unfold toR
        by_cases hc : (reachR (fitR l (fr : Int) wd st) (EndsR l fr).1 true 0).2.2 = 0 ∧ (reachR (fitR l (fr : Int) wd st) (EndsR l fr).1 true 0).2.1 = false ∧ 0 < (nearL (EndsR l fr).2.1 (reachR (fitR l (fr : Int) wd st) (EndsR l fr).1 true 0).1).length
        · rw [if_pos hc, if_pos hc, reachO_eq (nearL (EndsR l fr).2.1 (reachR (fitR l (fr : Int) wd st) (EndsR l fr).1 true 0).1) true 0 (fun q hq => hF q (by have := E2_in l hfr q (near_in q hq).1; omega))]
          rfl
        · rw [if_neg hc, if_neg hc]
      · by_cases hz : (toR l fr wd st).2 = 0
        · rw [if_pos hz]
          refine Ev.congr (fun k => if_pos hz) ?_
          exact Ev.bind (plast_ev l hlen fr hfr) (Ev.now _)
        · rw [if_neg hz]
          exact Ev.congr (fun k => if_neg hz) (Ev.now _)
  · rw [if_neg hm, if_neg hm]
    exact Ev.congr (fun k => if_neg (by decide)) (Ev.now _)
theorem rd_mem {l : List Int} {j : Nat} (h : j < l.length) : rd l (j : Int) ∈ l := by rw [rd_int l h]; exact List.getElem_mem _
theorem to_in {l : List S46} {fr : Nat} (hfr : fr ≤ l.length) {wd st : Int} (h : (toR l fr wd st).2 = 0) : (fr : Int) ≤ (toR l fr wd st).1 ∧ (toR l fr wd st).1 ≤ (l.length : Int) ∧ (fr < l.length → (fr : Int) < (toR l fr wd st).1) := by
  have hl1 := E1_pos l fr
  have m1 : ∀ j : Nat, j < (EndsR l fr).1.length → (fr : Int) ≤ rd (EndsR l fr).1 (j : Int) ∧ rd (EndsR l fr).1 (j : Int) ≤ (l.length : Int) ∧ (fr < l.length → (fr : Int) < rd (EndsR l fr).1 (j : Int)) := fun j hj => E1_in l hfr _ (rd_mem hj)
  rcases reach_run (fitR l (fr : Int) wd st) hl1.1 with ⟨g1, g2⟩ | ⟨g1, g2, g3⟩ | ⟨g1, j, g2, g3, g4⟩
  · unfold toR at h
    rw [g2, if_neg (fun h => g1 h.1)] at h
    exact absurd h g1
  · by_cases hnp : 0 < (nearL (EndsR l fr).2.1 (rd (EndsR l fr).1 0)).length
    · have m2 : ∀ j : Nat, j < (nearL (EndsR l fr).2.1 (rd (EndsR l fr).1 0)).length → (fr : Int) < rd (nearL (EndsR l fr).2.1 (rd (EndsR l fr).1 0)) (j : Int) ∧ rd (nearL (EndsR l fr).2.1 (rd (EndsR l fr).1 0)) (j : Int) ≤ (l.length : Int) := fun j hj => by
        have := E2_in l hfr _ (near_in _ (rd_mem hj)).1
        exact ⟨this.1, this.2.1⟩
      have et : toR l fr wd st = ((reachR (fitR l (fr : Int) wd st) (nearL (EndsR l fr).2.1 (rd (EndsR l fr).1 0)) true 0).1, (reachR (fitR l (fr : Int) wd st) (nearL (EndsR l fr).2.1 (rd (EndsR l fr).1 0)) true 0).2.2) := by
        unfold toR
        rw [g3, if_pos ⟨rfl, rfl, hnp⟩]
      rw [et] at h ⊢
      rcases reach_run (fitR l (fr : Int) wd st) hnp with ⟨k1, k2⟩ | ⟨k1, k2, k3⟩ | ⟨k1, j, k2, k3, k4⟩
      · rw [k2] at h; exact absurd h k1
      · rw [k3]
        have := m2 0 hnp
        exact ⟨by have := this.1; simp only; exact Int.le_of_lt this, this.2, fun _ => this.1⟩
      · rw [k4]
        have := m2 j k2
        exact ⟨Int.le_of_lt this.1, this.2, fun _ => this.1⟩
    · have et : toR l fr wd st = (rd (EndsR l fr).1 0, 0) := by
        unfold toR
        rw [g3, if_neg (fun h => hnp h.2.2)]
      rw [et]
      exact m1 0 hl1.1
  · have et : toR l fr wd st = (rd (EndsR l fr).1 (j : Int), 0) := by
      unfold toR
      rw [g4, if_neg (fun h => absurd (show true = false from h.2.1) (by decide))]
    rw [et]
    exact m1 j g2
theorem one_in {l : List S46} {fr : Nat} (hfr : fr ≤ l.length) {wd st : Int} (h : (oneR l fr wd st).2.2.2 = 0) : (oneR l fr wd st).1 = (fr : Int) ∧ (fr : Int) ≤ (oneR l fr wd st).2.1 ∧ (oneR l fr wd st).2.1 ≤ (l.length : Int) ∧ (fr < l.length → (fr : Int) < (oneR l fr wd st).2.1) ∧ (fr = l.length → (oneR l fr wd st).2.2.1 = false) := by
  unfold oneR at h ⊢
  by_cases hm : mayR l (fr : Int) = true
  · rw [if_pos hm] at h ⊢
    by_cases hw : wd < 0
    · rw [if_pos hw] at h; exact absurd h (by decide)
    · rw [if_neg hw] at h ⊢
      by_cases hz : (toR l fr wd st).2 = 0
      · rw [if_pos hz]
        obtain ⟨g1, g2, g3⟩ := to_in hfr hz
        refine ⟨rfl, g1, g2, g3, fun he => ?_⟩
        have := (last_pos l hfr).2.2.2 he
        simp only
        rw [this]
        rfl
      · rw [if_neg hz] at h; exact absurd h hz
  · rw [if_neg hm] at h; exact absurd h (by decide)
/-- All lines from a place on. -/
def linesR (l : List S46) (rw_ rs : Int) : Nat → Nat → Int → Int → List S43 × Int
  | 0, _, _, _ => ([], 0)
  | K + 1, at_, wd, st =>
    if (oneR l at_ wd st).2.2.2 = 0 then
      (if (oneR l at_ wd st).2.2.1 = true ∨ (oneR l at_ wd st).2.1 < (l.length : Int) then
        (if (linesR l rw_ rs K (oneR l at_ wd st).2.1.toNat rw_ rs).2 = 0 then (⟨(oneR l at_ wd st).1, (oneR l at_ wd st).2.1, (oneR l at_ wd st).2.2.1⟩ :: (linesR l rw_ rs K (oneR l at_ wd st).2.1.toNat rw_ rs).1, 0) else ([], (linesR l rw_ rs K (oneR l at_ wd st).2.1.toNat rw_ rs).2))
      else ([⟨(oneR l at_ wd st).1, (oneR l at_ wd st).2.1, (oneR l at_ wd st).2.2.1⟩], 0))
    else ([], (oneR l at_ wd st).2.2.2)
theorem lines_len (l : List S46) (rw_ rs : Int) : ∀ (K at_ : Nat) (wd st : Int), (linesR l rw_ rs K at_ wd st).1.length ≤ K
  | 0, _, _, _ => Nat.le_refl _
  | K + 1, at_, wd, st => by
    have ih := lines_len l rw_ rs K (oneR l at_ wd st).2.1.toNat rw_ rs
    simp only [linesR]
    split
    · split
      · split
        · simp only [List.length_cons]; omega
        · simp
      · simp
    · simp
end Go.Proofs.Ytdmlnkgpjileaaa.PureF
namespace Go.Proofs.Ytdmlnkgpjileaaa.PureF
set_option linter.unusedVariables false
open Go.RowKit Go.Proofs.YtdmlnkgpjileaaaW.PrintWords Go.Proofs.YtdmlnkgpjileaaaW.PrintLast Go.Proofs.YtdmlnkgpjileaaaW.PrintMore Go.Proofs.Ytdmlnkgpjileaaa.Hand Go.Proofs.Ytdmlnkgpjileaaa.HFirstC
end Go.Proofs.Ytdmlnkgpjileaaa.PureF
namespace Go.Proofs.Ytdmlnkgpjileaaa.PureF
set_option linter.unusedVariables false
open Go.RowKit Go.Proofs.YtdmlnkgpjileaaaW.PrintWords Go.Proofs.YtdmlnkgpjileaaaW.PrintLast Go.Proofs.YtdmlnkgpjileaaaW.PrintMore Go.Proofs.Ytdmlnkgpjileaaa.Hand Go.Proofs.Ytdmlnkgpjileaaa.HFirstC
theorem asAdv_iff (x y : S46) : asAdv x y = true ↔ x.f0 = y.f0 ∧ x.f1 = y.f1 ∧ x.f2 = y.f2 ∧ x.f4 = y.f4 ∧ x.f5 = y.f5 := by
  unfold asAdv
  simp only [Bool.and_eq_true, beq_iff_eq]
theorem ralike_l0 (l0 l1 : List S46) (hlen : l0.length ≤ 100000) (he : l0.length = l1.length) : ∀ (r i : Nat), i + r = l0.length → Ev (fun k => stickfulref15_Alike.l0 k l0 l1 (i : Int)) (asN l0 l1 r (i : Int)) := by
  intro r
  induction r with
  | zero =>
    intro i hi
    refine Ev.step (f := fun _ => some true) (fun k => ?_) (Ev.now _)
    simp only [stickfulref15_Alike.l0]
    rw [if_neg (by omega)]
  | succ r ih =>
    intro i hi
    have ih := ih (i + 1) (by omega)
    simp only [asN]
    rw [show (i : Int) + 1 = ((i + 1 : Nat) : Int) by omega]
    have e : ∀ k, stickfulref15_Alike.l0 (k + 1) l0 l1 (i : Int) = if asAdv (rd_T46 l0 (i : Int)) (rd_T46 l1 (i : Int)) = true then stickfulref15_Alike.l0 k l0 l1 ((i + 1 : Nat) : Int) else some false := by
      intro k
      simp only [stickfulref15_Alike.l0]
      rw [if_pos (by omega), if_pos (by omega), if_pos (by omega), w1 (by omega)]
      generalize rd_T46 l0 (i : Int) = x
      generalize rd_T46 l1 (i : Int) = y
      by_cases h : asAdv x y = true
      · obtain ⟨h0, h1, h2, h4, h5⟩ := (asAdv_iff x y).1 h
        rw [if_pos h, if_pos h0, if_pos h1, if_pos h2, if_neg (by rw [h4]; simp), if_neg (by rw [h5]; simp)]
      · rw [if_neg h]
        by_cases h0 : x.f0 = y.f0
        · rw [if_pos h0]
          by_cases h1 : x.f1 = y.f1
          · rw [if_pos h1]
            by_cases h2 : x.f2 = y.f2
            · rw [if_pos h2]
              by_cases h4 : x.f4 = y.f4
              · rw [if_neg (by rw [h4]; simp)]
                by_cases h5 : x.f5 = y.f5
                · exact absurd ((asAdv_iff x y).2 ⟨h0, h1, h2, h4, h5⟩) h
                · rw [if_pos (by simpa using h5)]
              · rw [if_pos (by simpa using h4)]
            · rw [if_neg h2]
          · rw [if_neg h1]
        · rw [if_neg h0]
    refine Ev.step e ?_
    by_cases h : asAdv (rd_T46 l0 (i : Int)) (rd_T46 l1 (i : Int)) = true
    · rw [h, Bool.true_and]
      exact Ev.congr (fun k => if_pos rfl) ih
    · rw [Bool.eq_false_iff.2 h, Bool.false_and]
      exact Ev.congr (fun k => if_neg (by decide)) (Ev.now _)
theorem ralike_ev (l0 l1 : List S46) (hlen : l0.length ≤ 100000) : Ev (fun k => stickfulref15_Alike.f k l0 l1) (asL l0 l1) := by
  unfold stickfulref15_Alike.f asL
  by_cases h : (l0.length : Int) = (l1.length : Int)
  · rw [decide_eq_true h, Bool.true_and]
    exact Ev.congr (fun k => if_pos h) (ralike_l0 l0 l1 hlen (by omega) l0.length 0 (by omega))
  · rw [decide_eq_false h, Bool.false_and]
    exact Ev.congr (fun k => if_neg h) (Ev.now _)
theorem as_len {l0 l1 : List S46} (h : asL l0 l1 = true) : l0.length = l1.length := by
  unfold asL at h
  simp only [Bool.and_eq_true, decide_eq_true_eq] at h
  omega
/-- What the iterator hands over, and what comes of it. -/
def Outs (xs : List (S43 × Int)) (r : List S43 × Int) : Prop := errO xs = r.2 ∧ (errO xs = 0 → xs.map (·.1) = r.1)
theorem goes_ev {l : List S46} (hlen : l.length ≤ 1000) (hl : ∀ c ∈ l, okC c) {b0 b1 : Int} (hb1 : in64 b1) : ∀ (K at_ : Nat) (wd st : Int), in64 st → at_ ≤ l.length → l.length < at_ + K →
    ∃ xs, xs.length ≤ K ∧ Outs xs (linesR l b0 b1 K at_ wd st) ∧ ∃ M, ∀ k n, M ≤ k → M ≤ n → goesO (fill_One.f k) l b0 b1 n l (at_ : Int) wd st = some xs
  | 0, at_, wd, st, _, h1, h2 => by omega
  | K + 1, at_, wd, st, hst, h1, h2 => by
    obtain ⟨M1, hM1⟩ := pone_ev (by omega) hl h1 (wd := wd) hst
    replace hM1 : ∀ k, M1 ≤ k → fill_One.f k l (at_ : Int) wd st = some (oneR l at_ wd st) := hM1
    simp only [linesR]
    by_cases he : (oneR l at_ wd st).2.2.2 = 0
    · obtain ⟨o1, o2, o3, o4, o5⟩ := one_in h1 he
      rw [if_pos he]
      have hat : ((oneR l at_ wd st).2.1.toNat : Int) = (oneR l at_ wd st).2.1 := by omega
      by_cases hm : (oneR l at_ wd st).2.2.1 = true ∨ (oneR l at_ wd st).2.1 < (l.length : Int)
      · rw [if_pos hm]
        have hlt : at_ < l.length := by
          rcases Nat.lt_or_ge at_ l.length with h | h
          · exact h
          · exfalso
            have := o5 (by omega)
            rcases hm with hm | hm
            · rw [this] at hm; cases hm
            · omega
        have hgo := o4 hlt
        obtain ⟨ys, hy1, hy2, M2, hM2⟩ := goes_ev (b0 := b0) hlen hl hb1 K (oneR l at_ wd st).2.1.toNat b0 b1 hb1 (by omega) (by omega)
        rw [hat] at hM2
        refine ⟨((⟨(oneR l at_ wd st).1, (oneR l at_ wd st).2.1, (oneR l at_ wd st).2.2.1⟩ : S43), (0 : Int)) :: ys, by simp; omega, ?_, max M1 M2 + 1, fun k n hk hn => ?_⟩
        · obtain ⟨h3, h4⟩ := hy2
          unfold Outs
          simp only [errO, if_pos]
          by_cases hz : (linesR l b0 b1 K (oneR l at_ wd st).2.1.toNat b0 b1).2 = 0
          · rw [if_pos hz]
            exact ⟨h3.trans hz, fun h => by rw [List.map_cons, h4 h]⟩
          · rw [if_neg hz]
            exact ⟨h3, fun h => absurd (h3.symm.trans h) hz⟩
        · obtain ⟨m, rfl⟩ : ∃ m, n = m + 1 := ⟨n - 1, by omega⟩
          simp only [goesO]
          rw [hM1 k (by omega), Option.bind_some, if_pos he, if_pos hm, hM2 k m (by omega) (by omega), Option.bind_some]
      · rw [if_neg hm]
        refine ⟨[((⟨(oneR l at_ wd st).1, (oneR l at_ wd st).2.1, (oneR l at_ wd st).2.2.1⟩ : S43), (0 : Int))], by simp, ⟨rfl, fun _ => rfl⟩, M1 + 1, fun k n hk hn => ?_⟩
        obtain ⟨m, rfl⟩ : ∃ m, n = m + 1 := ⟨n - 1, by omega⟩
        simp only [goesO]
        rw [hM1 k (by omega), Option.bind_some, if_pos he, if_neg hm]
    · rw [if_neg he]
      refine ⟨[((⟨(oneR l at_ wd st).1, (oneR l at_ wd st).2.1, (oneR l at_ wd st).2.2.1⟩ : S43), (oneR l at_ wd st).2.2.2)], by simp, ?_, M1 + 1, fun k n hk hn => ?_⟩
      · unfold Outs
        simp only [errO]
        rw [if_neg he]
        exact ⟨rfl, fun h => absurd h he⟩
      · obtain ⟨m, rfl⟩ : ∃ m, n = m + 1 := ⟨n - 1, by omega⟩
        simp only [goesO]
        rw [hM1 k (by omega), Option.bind_some, if_neg he]
/-- The lines of two rows that are alike and may be. -/
def TwoR (l0 l1 : List S46) (a0 a1 b0 b1 : Int) : List S43 × Int :=
  if (oneR l0 0 a0 a1).2.2.2 = 0 then
    (if (oneR l0 0 a0 a1).2.2.1 = true ∨ (oneR l0 0 a0 a1).2.1 < (l0.length : Int) then
      (if (linesR l1 b0 b1 (l1.length + 2) (oneR l0 0 a0 a1).2.1.toNat b0 b1).2 = 0 then (⟨(oneR l0 0 a0 a1).1, (oneR l0 0 a0 a1).2.1, (oneR l0 0 a0 a1).2.2.1⟩ :: (linesR l1 b0 b1 (l1.length + 2) (oneR l0 0 a0 a1).2.1.toNat b0 b1).1, 0) else ([], (linesR l1 b0 b1 (l1.length + 2) (oneR l0 0 a0 a1).2.1.toNat b0 b1).2))
    else ([⟨(oneR l0 0 a0 a1).1, (oneR l0 0 a0 a1).2.1, (oneR l0 0 a0 a1).2.2.1⟩], 0))
  else ([], (oneR l0 0 a0 a1).2.2.2)
theorem two_ev {l0 l1 : List S46} (hlen : l0.length ≤ 1000) (he : l0.length = l1.length) (hl0 : ∀ c ∈ l0, okC c) (hl1 : ∀ c ∈ l1, okC c) {a0 a1 b0 b1 : Int} (ha1 : in64 a1) (hb1 : in64 b1) :
    ∃ xs, xs.length ≤ 1003 ∧ Outs xs (TwoR l0 l1 a0 a1 b0 b1) ∧ ∃ M, ∀ k n, M ≤ k → M ≤ n → goesO (fill_One.f k) l1 b0 b1 n l0 0 a0 a1 = some xs := by
  obtain ⟨M1, hM1⟩ := pone_ev (by omega) hl0 (fr := 0) (by omega) (wd := a0) ha1
  have hM1' : ∀ k, M1 ≤ k → fill_One.f k l0 0 a0 a1 = some (oneR l0 0 a0 a1) := hM1
  unfold TwoR
  by_cases h0 : (oneR l0 0 a0 a1).2.2.2 = 0
  · obtain ⟨o1, o2, o3, o4, o5⟩ := one_in (fr := 0) (by omega) h0
    rw [if_pos h0]
    have hat : ((oneR l0 0 a0 a1).2.1.toNat : Int) = (oneR l0 0 a0 a1).2.1 := by omega
    by_cases hm : (oneR l0 0 a0 a1).2.2.1 = true ∨ (oneR l0 0 a0 a1).2.1 < (l0.length : Int)
    · rw [if_pos hm]
      obtain ⟨ys, hy1, hy2, M2, hM2⟩ := goes_ev (b0 := b0) (by omega) hl1 hb1 (l1.length + 2) (oneR l0 0 a0 a1).2.1.toNat b0 b1 hb1 (by omega) (by omega)
      rw [hat] at hM2
      refine ⟨((⟨(oneR l0 0 a0 a1).1, (oneR l0 0 a0 a1).2.1, (oneR l0 0 a0 a1).2.2.1⟩ : S43), (0 : Int)) :: ys, by simp; omega, ?_, max M1 M2 + 1, fun k n hk hn => ?_⟩
      · obtain ⟨h3, h4⟩ := hy2
        unfold Outs
        simp only [errO, if_pos]
        by_cases hz : (linesR l1 b0 b1 (l1.length + 2) (oneR l0 0 a0 a1).2.1.toNat b0 b1).2 = 0
        · rw [if_pos hz]
          exact ⟨h3.trans hz, fun h => by rw [List.map_cons, h4 h]⟩
        · rw [if_neg hz]
          exact ⟨h3, fun h => absurd (h3.symm.trans h) hz⟩
      · obtain ⟨m, rfl⟩ : ∃ m, n = m + 1 := ⟨n - 1, by omega⟩
        simp only [goesO]
        rw [hM1' k (by omega), Option.bind_some, if_pos h0, if_pos hm, hM2 k m (by omega) (by omega), Option.bind_some]
    · rw [if_neg hm]
      refine ⟨[((⟨(oneR l0 0 a0 a1).1, (oneR l0 0 a0 a1).2.1, (oneR l0 0 a0 a1).2.2.1⟩ : S43), (0 : Int))], by simp, ⟨rfl, fun _ => rfl⟩, M1 + 1, fun k n hk hn => ?_⟩
      obtain ⟨m, rfl⟩ : ∃ m, n = m + 1 := ⟨n - 1, by omega⟩
      simp only [goesO]
      rw [hM1' k (by omega), Option.bind_some, if_pos h0, if_neg hm]
  · rw [if_neg h0]
    refine ⟨[((⟨(oneR l0 0 a0 a1).1, (oneR l0 0 a0 a1).2.1, (oneR l0 0 a0 a1).2.2.1⟩ : S43), (oneR l0 0 a0 a1).2.2.2)], by simp, ?_, M1 + 1, fun k n hk hn => ?_⟩
    · unfold Outs
      simp only [errO]
      rw [if_neg h0]
      exact ⟨rfl, fun h => absurd h h0⟩
    · obtain ⟨m, rfl⟩ : ∃ m, n = m + 1 := ⟨n - 1, by omega⟩
      simp only [goesO]
      rw [hM1' k (by omega), Option.bind_some, if_neg h0]
/-- The lines of two rows, or why there are none. -/
def FirstR (l0 l1 : List S46) (a0 a1 b0 b1 : Int) : List S43 × Int :=
  if asL l0 l1 = true ∧ mayR l1 0 = true ∧ ¬ b0 < 0 then TwoR l0 l1 a0 a1 b0 b1 else ([], 2)
theorem two_err (l0 l1 : List S46) (a0 a1 b0 b1 : Int) : (TwoR l0 l1 a0 a1 b0 b1).2 ≠ 0 → (TwoR l0 l1 a0 a1 b0 b1).1 = [] := by
  intro h
  unfold TwoR at h ⊢
  by_cases h0 : (oneR l0 0 a0 a1).2.2.2 = 0
  · rw [if_pos h0] at h ⊢
    by_cases hm : (oneR l0 0 a0 a1).2.2.1 = true ∨ (oneR l0 0 a0 a1).2.1 < (l0.length : Int)
    · rw [if_pos hm] at h ⊢
      by_cases hz : (linesR l1 b0 b1 (l1.length + 2) (oneR l0 0 a0 a1).2.1.toNat b0 b1).2 = 0
      · rw [if_pos hz] at h; exact absurd rfl h
      · rw [if_neg hz]
    · rw [if_neg hm] at h; exact absurd rfl h
  · rw [if_neg h0]
theorem pfirst_ev {l0 l1 : List S46} (h0 : l0.length ≤ 1000) (h1 : l1.length ≤ 1000) (hl0 : ∀ c ∈ l0, okC c) (hl1 : ∀ c ∈ l1, okC c) {a0 a1 b0 b1 : Int} (ha1 : in64 a1) (hb1 : in64 b1) : Ev (fun k => first_Lines.f k l0 l1 a0 a1 b0 b1) (FirstR l0 l1 a0 a1 b0 b1) := by
  unfold first_Lines.f FirstR
  refine Ev.bind (pends_ev l1 (by omega) 0 (by omega)) ?_
  by_cases ha : asL l0 l1 = true
  · refine Ev.congr (fun k => if_pos ha) ?_
    by_cases hm : mayR l1 0 = true
    · have hm2 : mayR l1 ((0 : Nat) : Int) = true := hm
      rw [if_pos hm2]
      refine Ev.congr (fun k => if_pos rfl) ?_
      by_cases hb : b0 < 0
      · rw [if_neg (fun h => h.2.2 hb)]
        exact Ev.congr (fun k => if_pos hb) (Ev.now _)
      · rw [if_pos ⟨ha, hm, hb⟩]
        refine Ev.congr (fun k => if_neg hb) ?_
        obtain ⟨xs, hx1, ⟨hx2, hx3⟩, M, hM⟩ := two_ev (b0 := b0) h0 (as_len ha) hl0 hl1 (a0 := a0) ha1 hb1
        refine ⟨M, fun k hk => ?_⟩
        show (goesO (fill_One.f k) l1 b0 b1 k l0 0 a0 a1).bind _ = _
        rw [hM k k hk hk, Option.bind_some, if_pos (by omega)]
        by_cases hz : errO xs = 0
        · rw [if_pos hz, hx3 hz]
          exact congrArg some (Prod.ext rfl (hz.symm.trans hx2))
        · rw [if_neg hz]
          exact congrArg some (Prod.ext (two_err _ _ _ _ _ _ (fun h => hz (hx2.trans h))).symm hx2)
    · have hm2 : ¬ mayR l1 ((0 : Nat) : Int) = true := hm
      rw [if_neg hm2, if_neg (fun h => hm h.2.1)]
      exact Ev.congr (fun k => if_neg (by decide)) (Ev.now _)
  · have hn : ¬ (asL l0 l1 = true ∧ mayR l1 0 = true ∧ ¬ b0 < 0) := fun h => ha h.1
    rw [if_neg hn]
    exact Ev.congr (fun k => if_neg ha) (Ev.now _)
theorem rd43_nat (l : List S43) {i : Nat} (hi : i < l.length) : rd_T43 l (i : Int) = l[i] := by unfold rd_T43; simp [List.getD, hi]
theorem great_ev {l0 l1 : List S46} (a b c d : Int) : stickfullaw15_great.f l0 l1 a b c d = some (decide ((l0.length : Int) > 80) || decide ((l1.length : Int) > 80)) := by
  unfold stickfullaw15_great.f
  by_cases h : (l0.length : Int) > 80
  · rw [if_pos h, decide_eq_true h]; rfl
  · rw [if_neg h, decide_eq_false h]; rfl
end Go.Proofs.Ytdmlnkgpjileaaa.PureF
namespace Go.Proofs.Ytdmlnkgpjileaaa.HFirstC
open Go.RowKit Go.Proofs.YtdmlnkgpjileaaaW.PrintWords Go.Proofs.YtdmlnkgpjileaaaW.PrintLast Go.Proofs.YtdmlnkgpjileaaaW.PrintMore Go.Proofs.Ytdmlnkgpjileaaa.Hand
/-- What the law stickfullaw15_FirstCells asks of the plain functions. -/
def stickfullaw15_FirstCells.Pure : Prop := ∀ (x0 : S26) (l1 : List (S43)), W26 x0 → (l1.length ≤ 9223372036854775807 ∧ l1.length * 24 ≤ 140737488351232 ∧ ∀ y0 ∈ l1, W43 y0) → ∃ k, stickfullaw15_FirstCells.f k x0.f0 x0.f1 x0.f2.f0 x0.f2.f1 x0.f3.f0 x0.f3.f1 l1 = some true
end Go.Proofs.Ytdmlnkgpjileaaa.HFirstC
namespace Go.Proofs.Ytdmlnkgpjileaaa.PureF
set_option linter.unusedVariables false
open Go.RowKit Go.Proofs.YtdmlnkgpjileaaaW.PrintWords Go.Proofs.YtdmlnkgpjileaaaW.PrintLast Go.Proofs.YtdmlnkgpjileaaaW.PrintMore Go.Proofs.Ytdmlnkgpjileaaa.Hand Go.Proofs.Ytdmlnkgpjileaaa.HFirstC
theorem same46_l0 (l : List S46) (hl : l.length ≤ 1000000) : ∀ (r i : Nat), i + r = l.length → Ev (fun k => stickfulref11_Same.l0 k l l (i : Int)) true := by
  intro r
  induction r with
  | zero =>
    intro i hi
    refine Ev.step (f := fun _ => some true) (fun k => ?_) (Ev.now _)
    simp only [stickfulref11_Same.l0]
    rw [if_neg (by omega)]
  | succ r ih =>
    intro i hi
    refine Ev.step (fun k => ?_) (ih (i + 1) (by omega))
    simp only [stickfulref11_Same.l0]
    rw [if_pos (by omega), if_pos (by omega), if_pos (by omega), if_neg (by simp), w1 (by omega)]
theorem same46_ev (l : List S46) (hl : l.length ≤ 1000000) : Ev (fun k => stickfulref11_Same.f k l l) true := by
  unfold stickfulref11_Same.f
  exact Ev.congr (fun k => if_pos rfl) (same46_l0 l hl l.length 0 (by omega))
theorem rdL_nat (l : List (List S46)) {i : Nat} (hi : i < l.length) : rd_L4 l (i : Int) = l[i] := by unfold rd_L4; simp [List.getD, hi]
/-- What the cells of lines are. -/
def CellsR (l0 l1 : List S46) (l2 : List S43) : List (List S46) × Int := if asL l0 l1 = true then ((cellsO l1 l0 l2).getD [], if (cellsO l1 l0 l2).isSome = true then 0 else 2) else ([], 2)
theorem pcells {l0 l1 : List S46} (h0 : l0.length ≤ 80) (h1 : l1.length ≤ 80) {l2 : List S43} (h2 : l2.length ≤ 2000) : first_Cells.f l0 l1 l2 = some (CellsR l0 l1 l2) := by
  unfold first_Cells.f CellsR
  rw [if_pos ⟨by omega, by omega, by omega⟩]
def selO (l0 l1 : List S46) (i : Nat) : List S46 := if i = 0 then l0 else l1
theorem sel_len {l0 l1 : List S46} (he : l0.length = l1.length) (i : Nat) : (selO l0 l1 i).length = l0.length := by
  unfold selO
  split
  · rfl
  · exact he.symm
theorem cut_snoc_ (l : List S46) {a j : Nat} (h : a ≤ j) (hj : j < l.length) : (l.take j).drop a ++ [l[j]] = (l.take (j + 1)).drop a := by
  rw [List.take_add_one, List.drop_append_of_le_length (by rw [List.length_take]; omega), List.getElem?_eq_getElem hj]
  rfl
theorem eta46 (x : S46) : (⟨x.f0, x.f1, x.f2, x.f3, x.f4, x.f5⟩ : S46) = x := rfl
theorem rc_l1 {l0 l1 : List S46} (h0 : l0.length ≤ 80) (he : l0.length = l1.length) {l2 : List S43} (h2 : l2.length ≤ 2000) {i : Nat} (hi : i < l2.length) (acc : List (List S46)) (ha : acc.length ≤ 2000) {R : List (List S46) × Int}
    (hf : 0 ≤ l2[i].f0 ∧ l2[i].f0 ≤ l2[i].f1 ∧ l2[i].f1 ≤ (l0.length : Int)) (hgo : Ev (fun k => stickfulref15_Cells.l0 k l0 l1 l2 (acc ++ [cutO (selO l0 l1 i) l2[i]]) ((i + 1 : Nat) : Int)) R) :
    ∀ (r j : Nat), j + r = l2[i].f1.toNat → l2[i].f0.toNat ≤ j → Ev (fun k => stickfulref15_Cells.l1 k l0 l1 l2 acc (i : Int) (((selO l0 l1 i).take j).drop l2[i].f0.toNat) (j : Int)) R := by
  intro r
  induction r with
  | zero =>
    intro j hj hj2
    have ej : j = l2[i].f1.toNat := by omega
    subst ej
    refine Ev.step (fun k => ?_) hgo
    simp only [stickfulref15_Cells.l1]
    rw [if_pos (show (0 : Int) ≤ (i : Int) by omega), if_pos (show (i : Int) < (l2.length : Int) by omega), rd43_nat l2 hi, if_neg (show ¬ ((l2[i].f1.toNat : Nat) : Int) < l2[i].f1 by omega), if_pos (by omega), w1 (by omega)]
    rfl
  | succ r ih =>
    intro j hj hj2
    have hjl : j < l0.length := by omega
    have hsl := sel_len he i
    have ih := ih (j + 1) (by omega) (by omega)
    rw [← cut_snoc_ (selO l0 l1 i) hj2 (by omega)] at ih
    have hlen : (((selO l0 l1 i).take j).drop l2[i].f0.toNat).length ≤ 80 := by rw [List.length_drop, List.length_take]; omega
    refine Ev.step (fun k => ?_) ih
    simp only [stickfulref15_Cells.l1]
    rw [if_pos (show (0 : Int) ≤ (i : Int) by omega), if_pos (show (i : Int) < (l2.length : Int) by omega), rd43_nat l2 hi, if_pos (show (j : Int) < l2[i].f1 by omega), if_pos (show (0 : Int) ≤ (j : Int) by omega), if_pos (show (j : Int) < (l1.length : Int) by omega), w1 (by omega)]
    by_cases hz : i = 0
    · subst hz
      rw [if_pos (show ((0 : Nat) : Int) = 0 from rfl), if_pos (show (j : Int) < (l0.length : Int) by omega), if_pos (by omega), eta46, rd_nat l0 hjl]
      rfl
    · have e1 : (selO l0 l1 i)[j]'(by omega) = l1[j]'(by omega) := by
        have : selO l0 l1 i = l1 := if_neg hz
        simp only [this]
      rw [if_neg (show ¬ (i : Int) = 0 by omega), if_pos (by omega), eta46, rd_nat l1 (show j < l1.length by omega), e1]
theorem rc_l0 {l0 l1 : List S46} (h0 : l0.length ≤ 80) (he : l0.length = l1.length) {l2 : List S43} (h2 : l2.length ≤ 2000) : ∀ (r i : Nat) (acc : List (List S46)), i + r = l2.length → acc.length ≤ i →
    Ev (fun k => stickfulref15_Cells.l0 k l0 l1 l2 acc (i : Int)) (match cellsO l1 (selO l0 l1 i) (l2.drop i) with | some cs => (acc ++ cs, 0) | none => ([], 2)) := by
  intro r
  induction r with
  | zero =>
    intro i acc hi ha
    rw [List.drop_of_length_le (by omega)]
    simp only [cellsO, List.append_nil]
    refine Ev.step (f := fun _ => some (acc, 0)) (fun k => ?_) (Ev.now _)
    simp only [stickfulref15_Cells.l0]
    rw [if_neg (by omega)]
  | succ r ih =>
    intro i acc hi ha
    have hil : i < l2.length := by omega
    have hd : l2.drop i = l2[i] :: l2.drop (i + 1) := List.drop_eq_getElem_cons hil
    rw [hd]
    simp only [cellsO]
    rw [sel_len he i]
    have bad : ∀ b : Bool, b = true → Ev (fun k => stickfulref15_Cells.j1 k l0 l1 l2 acc (i : Int) b) ([], 2) := by
      intro b hb
      subst hb
      refine Ev.step (f := fun _ => some ([], 2)) (fun k => ?_) (Ev.now _)
      simp only [stickfulref15_Cells.j1]
      rw [if_pos trivial]
    by_cases hbad : l2[i].f0 < 0 ∨ l2[i].f1 < l2[i].f0 ∨ (l0.length : Int) < l2[i].f1
    · rw [if_pos hbad]
      show Ev _ ([], 2)
      by_cases g0 : l2[i].f0 < 0
      · refine Ev.step (fun k => ?_) (bad true rfl)
        simp only [stickfulref15_Cells.l0]
        rw [if_pos (by omega), if_pos (by omega), rd43_nat l2 hil, if_pos g0]
      · by_cases g1 : l2[i].f1 < l2[i].f0
        · refine Ev.step (fun k => ?_) (bad true rfl)
          simp only [stickfulref15_Cells.l0]
          rw [if_pos (by omega), if_pos (by omega), rd43_nat l2 hil, if_neg g0, if_pos g1]
        · refine Ev.step (fun k => ?_) (bad (decide (l2[i].f1 > (l0.length : Int))) (decide_eq_true (by omega)))
          simp only [stickfulref15_Cells.l0]
          rw [if_pos (by omega), if_pos (by omega), rd43_nat l2 hil, if_neg g0, if_neg g1]
    · rw [if_neg hbad]
      have ih := ih (i + 1) (acc ++ [cutO (selO l0 l1 i) l2[i]]) (by omega) (by simp; omega)
      have e1 : selO l0 l1 (i + 1) = l1 := if_neg (by omega)
      rw [e1] at ih
      have hR : (match (cellsO l1 l1 (l2.drop (i + 1))).map (cutO (selO l0 l1 i) l2[i] :: ·) with | some cs => (acc ++ cs, 0) | none => (([] : List (List S46)), (2 : Int))) = (match cellsO l1 l1 (l2.drop (i + 1)) with | some cs => (acc ++ [cutO (selO l0 l1 i) l2[i]] ++ cs, 0) | none => ([], 2)) := by
        cases cellsO l1 l1 (l2.drop (i + 1)) with
        | none => rfl
        | some cs => simp
      rw [hR]
      have hin := rc_l1 h0 he h2 hil acc (by omega) (by omega) ih (l2[i].f1.toNat - l2[i].f0.toNat) l2[i].f0.toNat (by omega) (Nat.le_refl _)
      rw [List.drop_of_length_le (by rw [List.length_take]; omega), show ((l2[i].f0.toNat : Nat) : Int) = l2[i].f0 by omega] at hin
      have hj : Ev (fun k => stickfulref15_Cells.j1 k l0 l1 l2 acc (i : Int) false) (match cellsO l1 l1 (l2.drop (i + 1)) with | some cs => (acc ++ [cutO (selO l0 l1 i) l2[i]] ++ cs, 0) | none => ([], 2)) := by
        refine Ev.step (fun k => ?_) hin
        simp only [stickfulref15_Cells.j1]
        rw [if_neg (by decide), if_pos (by omega), if_pos (by omega), rd43_nat l2 hil]
      refine Ev.step (fun k => ?_) hj
      simp only [stickfulref15_Cells.l0]
      rw [if_pos (by omega), if_pos (by omega), rd43_nat l2 hil, if_neg (by omega), if_neg (by omega), decide_eq_false (by omega)]
theorem rcells_ev {l0 l1 : List S46} (h0 : l0.length ≤ 80) (h1 : l1.length ≤ 80) {l2 : List S43} (h2 : l2.length ≤ 2000) : Ev (fun k => stickfulref15_Cells.f k l0 l1 l2) (CellsR l0 l1 l2) := by
  unfold stickfulref15_Cells.f CellsR
  refine Ev.bind (ralike_ev l0 l1 (by omega)) ?_
  by_cases ha : asL l0 l1 = true
  · rw [if_pos ha]
    refine Ev.congr (fun k => if_pos ha) ?_
    have h := rc_l0 h0 (as_len ha) h2 l2.length 0 [] (by omega) (by simp)
    rw [List.drop_zero, show selO l0 l1 0 = l0 from rfl] at h
    have e : (match cellsO l1 l0 l2 with | some cs => (([] : List (List S46)) ++ cs, (0 : Int)) | none => ([], 2)) = ((cellsO l1 l0 l2).getD [], if (cellsO l1 l0 l2).isSome = true then 0 else 2) := by
      cases cellsO l1 l0 l2 with
      | none => rfl
      | some cs => rfl
    rw [← e]
    exact h
  · rw [if_neg ha]
    exact Ev.congr (fun k => if_neg ha) (Ev.now _)
theorem cells_len (l1 : List S46) (h1 : l1.length ≤ 80) : ∀ (l2 : List S43) (own : List S46) (cs : List (List S46)), own.length ≤ 80 → cellsO l1 own l2 = some cs → cs.length = l2.length ∧ ∀ r ∈ cs, r.length ≤ 80
  | [], own, cs, _, h => by
    simp only [cellsO, Option.some.injEq] at h
    rw [← h]
    exact ⟨rfl, fun r hr => by cases hr⟩
  | x :: xs, own, cs, ho, h => by
    simp only [cellsO] at h
    split at h
    · cases h
    · obtain ⟨ds, hd, rfl⟩ := Option.map_eq_some_iff.1 h
      obtain ⟨e1, e2⟩ := cells_len l1 h1 xs l1 ds h1 hd
      refine ⟨by simp [e1], fun r hr => ?_⟩
      rcases List.mem_cons.1 hr with rfl | hr
      · unfold cutO; rw [List.length_drop, List.length_take]; omega
      · exact e2 r hr
theorem cellsR_len {l0 l1 : List S46} (h0 : l0.length ≤ 80) (h1 : l1.length ≤ 80) (l2 : List S43) : (CellsR l0 l1 l2).1.length ≤ l2.length ∧ ∀ r ∈ (CellsR l0 l1 l2).1, r.length ≤ 80 := by
  unfold CellsR
  split
  · cases hc : cellsO l1 l0 l2 with
    | none => simp
    | some cs =>
      obtain ⟨e1, e2⟩ := cells_len l1 h1 l2 l0 cs h0 hc
      exact ⟨by simp [e1], by simpa using e2⟩
  · simp
theorem cut_join (l : List S46) {a b : Nat} (h : a ≤ b) (hb : b ≤ l.length) : (l.take b).drop a ++ l.drop b = l.drop a := by
  have h2 : (l.take b ++ l.drop b).drop a = (l.take b).drop a ++ l.drop b := List.drop_append_of_le_length (by rw [List.length_take]; omega)
  rw [List.take_append_drop] at h2
  exact h2.symm
/-- The cells of lines that follow each other. -/
theorem cells_lines (l : List S46) (rw_ rs : Int) : ∀ (K at_ : Nat) (wd st : Int), at_ ≤ l.length → l.length < at_ + K → (linesR l rw_ rs K at_ wd st).2 = 0 → ∃ cs, cellsO l l (linesR l rw_ rs K at_ wd st).1 = some cs ∧ cs.flatten = l.drop at_
  | 0, at_, _, _, h, h1, _ => by omega
  | K + 1, at_, wd, st, h, h1, h0 => by
    simp only [linesR] at h0 ⊢
    by_cases he : (oneR l at_ wd st).2.2.2 = 0
    · obtain ⟨o1, o2, o3, o4, o5⟩ := one_in h he
      rw [if_pos he] at h0 ⊢
      have hc : ∀ fo : Bool, cutO l ⟨(oneR l at_ wd st).1, (oneR l at_ wd st).2.1, fo⟩ = (l.take (oneR l at_ wd st).2.1.toNat).drop at_ := by
        intro fo
        unfold cutO
        simp only
        rw [o1, Int.toNat_natCast]
      by_cases hm : (oneR l at_ wd st).2.2.1 = true ∨ (oneR l at_ wd st).2.1 < (l.length : Int)
      · rw [if_pos hm] at h0 ⊢
        have hlt : at_ < l.length := by
          rcases Nat.lt_or_ge at_ l.length with h | h
          · exact h
          · exfalso
            have := o5 (by omega)
            rcases hm with hm | hm
            · rw [this] at hm; cases hm
            · omega
        have hgo := o4 hlt
        by_cases hz : (linesR l rw_ rs K (oneR l at_ wd st).2.1.toNat rw_ rs).2 = 0
        · rw [if_pos hz]
          obtain ⟨cs, hcs, hf⟩ := cells_lines l rw_ rs K (oneR l at_ wd st).2.1.toNat rw_ rs (by omega) (by omega) hz
          refine ⟨cutO l ⟨(oneR l at_ wd st).1, (oneR l at_ wd st).2.1, (oneR l at_ wd st).2.2.1⟩ :: cs, ?_, ?_⟩
          · simp only [cellsO]
            rw [if_neg (by omega), hcs]
            rfl
          · rw [List.flatten_cons, hf, hc, cut_join l (by omega) (by omega)]
        · rw [if_neg hz] at h0; exact absurd h0 hz
      · rw [if_neg hm]
        refine ⟨[cutO l ⟨(oneR l at_ wd st).1, (oneR l at_ wd st).2.1, (oneR l at_ wd st).2.2.1⟩], ?_, ?_⟩
        · simp only [cellsO]
          rw [if_neg (by omega)]
          rfl
        · have hto : (oneR l at_ wd st).2.1.toNat = l.length := by
            rcases Int.lt_or_le (oneR l at_ wd st).2.1 (l.length : Int) with h2 | h2
            · exact absurd (.inr h2) hm
            · omega
          rw [List.flatten_cons, List.flatten_nil, List.append_nil, hc, hto, List.take_length]
    · rw [if_neg he] at h0; exact absurd h0 he
/-- The first of two rows' lines, and all their cells. -/
theorem first_cells {l0 l1 : List S46} (h0 : l0.length ≤ 80) (h1 : l1.length ≤ 80) {a0 a1 b0 b1 : Int} (hz : (FirstR l0 l1 a0 a1 b0 b1).2 = 0) :
    ∃ (t : Nat) (x : S43) (xs : List S43) (cs : List (List S46)), (FirstR l0 l1 a0 a1 b0 b1).1 = x :: xs ∧ x.f1 = (t : Int) ∧ t ≤ l0.length ∧ l0.length = l1.length ∧ xs.length ≤ 100 ∧ CellsR l0 l1 (x :: xs) = (cs, 0) ∧ cs.length = xs.length + 1 ∧ cs.flatten = l0.take t ++ l1.drop t := by
  unfold FirstR at hz ⊢
  by_cases hc : asL l0 l1 = true ∧ mayR l1 0 = true ∧ ¬ b0 < 0
  · rw [if_pos hc] at hz ⊢
    have hlen := as_len hc.1
    unfold TwoR at hz ⊢
    by_cases he : (oneR l0 0 a0 a1).2.2.2 = 0
    · obtain ⟨o1, o2, o3, o4, o5⟩ := one_in (fr := 0) (by omega) he
      rw [if_pos he] at hz ⊢
      have hcut : ∀ fo : Bool, cutO l0 ⟨(oneR l0 0 a0 a1).1, (oneR l0 0 a0 a1).2.1, fo⟩ = l0.take (oneR l0 0 a0 a1).2.1.toNat := by
        intro fo
        unfold cutO
        simp only
        rw [o1]
        rfl
      have fin : ∀ (xs : List S43) (ds : List (List S46)), xs.length ≤ 100 → cellsO l1 l1 xs = some ds → ds.flatten = l1.drop (oneR l0 0 a0 a1).2.1.toNat → CellsR l0 l1 (⟨(oneR l0 0 a0 a1).1, (oneR l0 0 a0 a1).2.1, (oneR l0 0 a0 a1).2.2.1⟩ :: xs) = (l0.take (oneR l0 0 a0 a1).2.1.toNat :: ds, 0) ∧ (l0.take (oneR l0 0 a0 a1).2.1.toNat :: ds).length = xs.length + 1 ∧ (l0.take (oneR l0 0 a0 a1).2.1.toNat :: ds).flatten = l0.take (oneR l0 0 a0 a1).2.1.toNat ++ l1.drop (oneR l0 0 a0 a1).2.1.toNat := by
        intro xs ds hx hd hf
        have hO : cellsO l1 l0 (⟨(oneR l0 0 a0 a1).1, (oneR l0 0 a0 a1).2.1, (oneR l0 0 a0 a1).2.2.1⟩ :: xs) = some (l0.take (oneR l0 0 a0 a1).2.1.toNat :: ds) := by
          simp only [cellsO]
          rw [if_neg (by omega), hd, hcut]
          rfl
        refine ⟨?_, ?_, ?_⟩
        · unfold CellsR
          rw [if_pos hc.1, hO]
          rfl
        · rw [List.length_cons, (cells_len l1 h1 xs l1 ds h1 hd).1]
        · rw [List.flatten_cons, hf]
      by_cases hm : (oneR l0 0 a0 a1).2.2.1 = true ∨ (oneR l0 0 a0 a1).2.1 < (l0.length : Int)
      · rw [if_pos hm] at hz ⊢
        by_cases hq : (linesR l1 b0 b1 (l1.length + 2) (oneR l0 0 a0 a1).2.1.toNat b0 b1).2 = 0
        · rw [if_pos hq]
          obtain ⟨ds, hd, hf⟩ := cells_lines l1 b0 b1 (l1.length + 2) (oneR l0 0 a0 a1).2.1.toNat b0 b1 (by omega) (by omega) hq
          have hll := lines_len l1 b0 b1 (l1.length + 2) (oneR l0 0 a0 a1).2.1.toNat b0 b1
          obtain ⟨f1, f2, f3⟩ := fin _ ds (by omega) hd hf
          exact ⟨(oneR l0 0 a0 a1).2.1.toNat, _, _, _, rfl, by simp only; omega, by omega, hlen, by omega, f1, f2, f3⟩
        · rw [if_neg hq] at hz; exact absurd hz hq
      · rw [if_neg hm]
        have hto : (oneR l0 0 a0 a1).2.1.toNat = l1.length := by
          rcases Int.lt_or_le (oneR l0 0 a0 a1).2.1 (l0.length : Int) with h2 | h2
          · exact absurd (.inr h2) hm
          · omega
        obtain ⟨f1, f2, f3⟩ := fin [] [] (by simp) rfl (by rw [hto, List.drop_length]; rfl)
        exact ⟨(oneR l0 0 a0 a1).2.1.toNat, _, _, _, rfl, by simp only; omega, by omega, hlen, by simp, f1, f2, f3⟩
    · rw [if_neg he] at hz; exact absurd hz he
  · rw [if_neg hc] at hz; exact absurd hz (by decide)
section
variable {l0 l1 : List S46} {a0 a1 b0 b1 : Int}
theorem same_rows (cs : List (List S46)) (hcs : cs.length ≤ 100000) (hr : ∀ r ∈ cs, r.length ≤ 80) (hgo : Ev (fun k => (first_Lines.f k l0 l1 a0 a1 b0 b1).bind fun bt236 => (if bt236.2 = 0 then (stickfullaw15_FirstCells.j3 k bt236.1 bt236.2 ((bt236.1.length : Int) == 0) l0 l1 a0 a1 b0 b1) else (stickfullaw15_FirstCells.j3 k bt236.1 bt236.2 true l0 l1 a0 a1 b0 b1))) true) :
    ∀ (r i : Nat), i + r = cs.length → Ev (fun k => stickfullaw15_FirstCells.l0 k cs cs (i : Int) l0 l1 a0 a1 b0 b1) true := by
  intro r
  induction r with
  | zero =>
    intro i hi
    refine Ev.step (fun k => ?_) hgo
    simp only [stickfullaw15_FirstCells.l0]
    rw [if_neg (by omega)]
  | succ r ih =>
    intro i hi
    have e : ∀ k, stickfullaw15_FirstCells.l0 (k + 1) cs cs (i : Int) l0 l1 a0 a1 b0 b1 = (stickfulref11_Same.f k (cs[i]'(by omega)) (cs[i]'(by omega))).bind fun t235 => (if t235 = true then stickfullaw15_FirstCells.l0 k cs cs ((i + 1 : Nat) : Int) l0 l1 a0 a1 b0 b1 else some false) := by
      intro k
      simp only [stickfullaw15_FirstCells.l0]
      rw [if_pos (by omega), if_pos (by omega), if_pos (by omega), rdL_nat cs (by omega), w1 (by omega)]
    refine Ev.step e (Ev.bind (same46_ev _ (by have := hr _ (List.getElem_mem (show i < cs.length by omega)); omega)) ?_)
    exact Ev.congr (fun k => if_pos rfl) (ih (i + 1) (by omega))
theorem all_rows (h0 : l0.length ≤ 80) (h1 : l1.length ≤ 80) (hlen : l0.length = l1.length) {t : Nat} (ht : t ≤ l0.length) {x : S43} (hx : x.f1 = (t : Int)) (xs : List S43) (cs : List (List S46)) (hcs : cs.length ≤ 100000) (hf : cs.flatten = l0.take t ++ l1.drop t) :
    ∀ (r i : Nat) (acc : List S46), i + r = cs.length → acc ++ (cs.drop i).flatten = l0.take t ++ l1.drop t → Ev (fun k => stickfullaw15_FirstCells.l1 k (x :: xs) cs acc (i : Int) l0 l1 a0 a1 b0 b1) true := by
  have hT : (l0.take t ++ l1.drop t).length ≤ 160 := by rw [List.length_append, List.length_take, List.length_drop]; omega
  intro r
  induction r with
  | zero =>
    intro i acc hi ha
    rw [List.drop_of_length_le (by omega), List.flatten_nil, List.append_nil] at ha
    subst ha
    have hrd : (rd_T43 (x :: xs) 0).f1 = (t : Int) := hx
    have hj : Ev (fun k => stickfullaw15_FirstCells.j6 k (l0.take t ++ l1.drop t) (t : Int) false l0 l1 a0 a1 b0 b1) true := by
      have e : ∀ k, stickfullaw15_FirstCells.j6 (k + 1) (l0.take t ++ l1.drop t) (t : Int) false l0 l1 a0 a1 b0 b1 = (stickfulref11_Same.f k (l0.take t ++ l1.drop t) (l0.take t ++ l1.drop t)).bind fun t267 => (if t267 = true then ((stickfullaw15_head.f k).bind fun t268 => (some t268)) else (some false)) := by
        intro k
        simp only [stickfullaw15_FirstCells.j6]
        rw [if_neg (by decide)]
        simp only [Option.bind_some, List.nil_append, Int.toNat_natCast]
        rw [if_pos (by omega), if_pos (by omega), if_pos (by rw [List.length_take]; simp; omega), if_pos (by omega), if_pos (by rw [List.length_take, List.length_drop]; omega)]
      refine Ev.step e (Ev.bind (same46_ev _ (by omega)) ?_)
      exact Ev.congr (fun k => if_pos rfl) head_ev2
    refine Ev.step (fun k => ?_) hj
    simp only [stickfullaw15_FirstCells.l1]
    rw [if_neg (by omega), hrd, if_pos (by simp), if_neg (by omega), decide_eq_false (by omega)]
  | succ r ih =>
    intro i acc hi ha
    have hd : cs.drop i = (cs[i]'(by omega)) :: cs.drop (i + 1) := List.drop_eq_getElem_cons (by omega)
    rw [hd, List.flatten_cons] at ha
    have hl : acc.length + (cs[i]'(by omega)).length ≤ 160 := by
      have := congrArg List.length ha
      rw [List.length_append, List.length_append] at this
      omega
    refine Ev.step (fun k => ?_) (ih (i + 1) (acc ++ (cs[i]'(by omega))) (by omega) (by rw [List.append_assoc]; exact ha))
    simp only [stickfullaw15_FirstCells.l1]
    rw [if_pos (by omega), if_pos (by omega), rdL_nat cs (by omega), if_pos (by omega), w1 (by omega)]
end
theorem FirstCells : stickfullaw15_FirstCells.Pure := by
  intro x ls hx hls
  obtain ⟨⟨_, _, hw0⟩, ⟨_, _, hw1⟩, ha, hb⟩ := hx
  have hl0 : ∀ d ∈ x.f0, okC d := fun d hd => okC_of (hw0 d hd)
  have hl1 : ∀ d ∈ x.f1, okC d := fun d hd => okC_of (hw1 d hd)
  have ha1 := i64_of ha.2
  have hb1 := i64_of hb.2
  refine Ev.rounds (r := true) ?_
  show Ev (fun k => stickfullaw15_FirstCells.f k x.f0 x.f1 x.f2.f0 x.f2.f1 x.f3.f0 x.f3.f1 ls) true
  generalize x.f0 = l0 at *
  generalize x.f1 = l1 at *
  generalize x.f2.f0 = a0 at *
  generalize x.f2.f1 = a1 at *
  generalize x.f3.f0 = b0 at *
  generalize x.f3.f1 = b1 at *
  have hh : Ev (fun k => stickfullaw15_FirstCells.j0 k ls true l0 l1 a0 a1 b0 b1) true := by
    refine Ev.step (fun k => ?_) head_ev2
    simp only [stickfullaw15_FirstCells.j0]
    rw [if_pos trivial]
  unfold stickfullaw15_FirstCells.f
  refine Ev.bind (Ev.congr (fun k => great_ev _ _ _ _) (Ev.now _)) ?_
  by_cases hg : (decide ((l0.length : Int) > 80) || decide ((l1.length : Int) > 80)) = true
  · exact Ev.congr (fun k => if_pos hg) hh
  · refine Ev.congr (fun k => if_neg hg) ?_
    simp only [Bool.or_eq_true, decide_eq_true_eq, not_or] at hg
    by_cases hn : (ls.length : Int) > 100
    · rw [decide_eq_true hn]; exact hh
    · rw [decide_eq_false hn]
      have e0 : ∀ k, stickfullaw15_FirstCells.j0 (k + 1) ls false l0 l1 a0 a1 b0 b1 = ((first_Cells.f l0 l1 ls).bind fun bt225 => ((stickfulref15_Cells.f k l0 l1 ls).bind fun bt229 => (if bt225.2 = bt229.2 then (stickfullaw15_FirstCells.j1 k bt225.1 bt229.1 ((bt225.1.length : Int) != (bt229.1.length : Int)) l0 l1 a0 a1 b0 b1) else (stickfullaw15_FirstCells.j1 k bt225.1 bt229.1 true l0 l1 a0 a1 b0 b1)))) := by
        intro k
        simp only [stickfullaw15_FirstCells.j0]
        rw [if_neg (by decide)]
      refine Ev.step e0 (Ev.bind (a := CellsR l0 l1 ls) (Ev.congr (fun k => pcells (by omega) (by omega) (by omega)) (Ev.now _)) ?_)
      refine Ev.bind (rcells_ev (by omega) (by omega) (by omega)) ?_
      refine Ev.congr (fun k => if_pos rfl) ?_
      obtain ⟨c1, c2⟩ := cellsR_len (l0 := l0) (l1 := l1) (by omega) (by omega) ls
      have hend : Ev (fun k => (first_Lines.f k l0 l1 a0 a1 b0 b1).bind fun bt236 => (if bt236.2 = 0 then (stickfullaw15_FirstCells.j3 k bt236.1 bt236.2 ((bt236.1.length : Int) == 0) l0 l1 a0 a1 b0 b1) else (stickfullaw15_FirstCells.j3 k bt236.1 bt236.2 true l0 l1 a0 a1 b0 b1))) true := by
        refine Ev.bind (pfirst_ev (by omega) (by omega) hl0 hl1 ha1 hb1) ?_
        by_cases hz : (FirstR l0 l1 a0 a1 b0 b1).2 = 0
        · refine Ev.congr (fun k => if_pos hz) ?_
          obtain ⟨t, y, ys, cs, f1, f2, f3, f4, f5, f6, f7, f8⟩ := first_cells (by omega) (by omega) hz
          rw [f1, hz]
          have e3 : ∀ k, stickfullaw15_FirstCells.j3 (k + 1) (y :: ys) 0 (((y :: ys).length : Int) == 0) l0 l1 a0 a1 b0 b1 = ((first_Cells.f l0 l1 (y :: ys)).bind fun bt241 => (if bt241.2 = 0 then (stickfullaw15_FirstCells.j4 k (y :: ys) bt241.1 ((bt241.1.length : Int) != ((y :: ys).length : Int)) l0 l1 a0 a1 b0 b1) else (stickfullaw15_FirstCells.j4 k (y :: ys) bt241.1 true l0 l1 a0 a1 b0 b1))) := by
            intro k
            simp only [stickfullaw15_FirstCells.j3]
            rw [if_neg (by simp only [beq_iff_eq, List.length_cons]; omega)]
          refine Ev.step e3 (Ev.bind (a := (cs, 0)) (Ev.congr (fun k => (pcells (by omega) (by omega) (by simp only [List.length_cons]; omega)).trans (congrArg some f6)) (Ev.now _)) ?_)
          refine Ev.congr (fun k => if_pos rfl) ?_
          refine Ev.step (fun k => ?_) (all_rows (a0 := a0) (a1 := a1) (b0 := b0) (b1 := b1) (by omega) (by omega) f4 f3 f2 ys cs (by omega) f8 cs.length 0 [] (by omega) (by rw [List.drop_zero, List.nil_append]; exact f8))
          simp only [stickfullaw15_FirstCells.j4]
          rw [if_neg (by simp only [bne_iff_ne, List.length_cons, f7]; omega)]
          rfl
        · refine Ev.congr (fun k => if_neg hz) ?_
          refine Ev.step (fun k => ?_) head_ev2
          simp only [stickfullaw15_FirstCells.j3]
          rw [if_pos trivial, if_neg hz]
      refine Ev.step (fun k => ?_) (same_rows (CellsR l0 l1 ls).1 (by omega) c2 hend (CellsR l0 l1 ls).1.length 0 (by omega))
      simp only [stickfullaw15_FirstCells.j1]
      rw [if_neg (by simp)]
      rfl
end Go.Proofs.Ytdmlnkgpjileaaa.PureF
namespace Go.Proofs.Ytdmlnkgpjileaaa.Pure
theorem FirstCells : Go.Proofs.Ytdmlnkgpjileaaa.HFirstC.stickfullaw15_FirstCells.Pure := Go.Proofs.Ytdmlnkgpjileaaa.PureF.FirstCells
end Go.Proofs.Ytdmlnkgpjileaaa.Pure
