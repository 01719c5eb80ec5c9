/- Plain laws of chapter 14: pens and roles, what fits, and the document's own answers. No condition of its own. -/
import Derived.Test.YtagdaniakfpnfaaSayFillC
import Derived.Test.YtagdaniakfpnfaaHFillCx0
import Derived.Test.YtagdaniakfpnfaaHFillCx1
import Derived.Test.YtagdaniakfpnfaaHFillCx2
import Derived.Test.YtagdaniakfpnfaaHFillCx3
import Derived.Test.YtagdaniakfpnfaaHFillCx4
import Derived.Test.YtagdaniakfpnfaaHFillCx5
import Derived.Test.YtagdaniakfpnfaaHFillCx6
import Derived.Test.YtagdaniakfpnfaaHFillCx7
import Derived.Test.YtagdaniakfpnfaaHFillCx8
import Derived.Test.YtagdaniakfpnfaaHFillCx9
import Derived.Test.YtagdaniakfpnfaaHFillCx10
import Derived.Test.YtagdaniakfpnfaaHFillCx11
import Derived.Test.YtagdaniakfpnfaaHFillCx12
import Derived.Test.YtagdaniakfpnfaaHFillCx13
import Derived.Test.YtagdaniakfpnfaaHFillCx14
import Derived.Test.YtagdaniakfpnfaaHFillCx15
import Derived.Test.YtagdaniakfpnfaaHFillCx17
namespace Go.Proofs.Ytagdaniakfpnfaa.PureF
open Go.RowKit Go.Proofs.YtagdaniakfpnfaaW.PrintWords Go.Proofs.YtagdaniakfpnfaaW.PrintLast Go.Proofs.YtagdaniakfpnfaaW.PrintMore Go.Proofs.Ytagdaniakfpnfaa.Hand Go.Proofs.Ytagdaniakfpnfaa.HFillC
def fits (x : Int) : Prop := -4611686018427387904 ≤ x ∧ x ≤ 4611686018427387904
instance (x : Int) : Decidable (fits x) := by unfold fits; exact inferInstance
def fitO (s : Int) : Option Int := if fits s then some s else none
/-- The pen behind a cell that may be. -/
def nxt (c : S44) (x : Int) : Option Int := if c.f0 = 4 then (if c.f3 = 0 then some x else fitO (x - x % c.f3 + c.f3)) else fitO (x + c.f3)
def nxtR (r : Int) (c : S44) (x : Int) : Option Int := if r = 1 then some x else nxt c x
/-- The pens behind cells. -/
def walk (rs : List Int) : List S44 → Nat → Int → Option (List Int)
  | [], _, _ => some []
  | c :: l, i, x => (nxtR (roleAt rs i) c x).bind fun y => (walk rs l (i + 1) y).map (y :: ·)
def pensR (rs : List Int) (l : List S44) (x : Int) : List Int × Int :=
  if l.any badTab then ([], 2) else if fits x then (match walk rs l 0 x with | some ys => (x :: ys, 0) | none => ([], 10)) else ([], 10)
def okC (c : S44) : Prop := in64 c.f3

theorem ws {x : Int} (h1 : -9223372036854775808 ≤ x) (h2 : x ≤ 9223372036854775807) : wrap64 x = x := by
  unfold wrap64
  omega
theorem wrap_in (x : Int) : in64 (wrap64 x) := by unfold in64 wrap64; omega
theorem sum_ok {l : List Int} (h : ∀ x ∈ l, in64 x) (hl : l.length ≤ 1000) : unit_Sum.f l = some (if fits l.sum then (l.sum, 0) else (0, 10)) := by
  unfold unit_Sum.f
  rw [if_pos ⟨h, by omega⟩]
  by_cases hf : fits l.sum
  · rw [if_pos hf]; exact if_pos hf
  · rw [if_neg hf]; exact if_neg hf
theorem in_of_fits {x : Int} (h : fits x) : in64 x := by unfold fits at h; unfold in64; omega
theorem tmod_cases {x d : Int} (hd : 0 < d) : (x.tmod d < 0 ∧ x % d = x.tmod d + d) ∨ (¬ x.tmod d < 0 ∧ x % d = x.tmod d) := by
  have h1 : 0 ≤ x % d := Int.emod_nonneg x (by omega)
  have h2 : x % d < d := Int.emod_lt_of_pos x hd
  rcases Int.le_total 0 x with hx | hx
  · right
    rw [Int.tmod_eq_emod_of_nonneg hx]
    exact ⟨by omega, rfl⟩
  · have e : x.tmod d = -((-x).tmod d) := by rw [Int.neg_tmod]; omega
    rw [Int.tmod_eq_emod_of_nonneg (show 0 ≤ -x by omega)] at e
    have h3 : 0 ≤ (-x) % d := Int.emod_nonneg (-x) (by omega)
    have h4 : (-x) % d < d := Int.emod_lt_of_pos (-x) hd
    have h5 : ((-x) % d + x % d) % d = 0 := by rw [← Int.add_emod]; simp [Int.add_left_neg]
    by_cases hz : (-x) % d = 0
    · right
      rw [hz] at h5 e
      rw [Int.zero_add, Int.emod_emod_of_dvd x (Int.dvd_refl d)] at h5
      omega
    · left
      have h6 : (-x) % d + x % d = d := by
        by_cases hc : (-x) % d + x % d < d
        · rw [Int.emod_eq_of_lt (by omega) hc] at h5
          omega
        · have : ((-x) % d + x % d - d) % d = 0 := by rw [Int.sub_emod_right]; exact h5
          rw [Int.emod_eq_of_lt (by omega) (by omega)] at this
          omega
      omega
theorem step_eq {c : S44} (hc : okC c) (hb : badTab c = false) {x : Int} (hx : fits x) : stepC c x = some (match nxt c x with | some y => (y, 0) | none => (0, 10)) := by
  have hx1 := in_of_fits hx
  have s1 : unit_Sum.f [x] = some (x, 0) := by
    rw [sum_ok (by simpa using hx1) (by simp)]
    simp only [List.sum_cons, List.sum_nil, Int.add_zero]
    rw [if_pos hx]
  unfold stepC tabs_Step.f nxt
  rw [s1]
  simp only [Option.bind_some]
  by_cases h4 : c.f0 = 4
  · rw [if_pos h4, if_pos h4]
    have h3 : ¬ c.f3 < 0 := by
      intro h
      unfold badTab at hb
      rw [h4, decide_eq_true h] at hb
      cases hb
    rw [decide_eq_false h3]
    simp only [tabs_Step.j0]
    rw [if_neg (by decide), if_pos h4, if_pos trivial]
    by_cases h0 : c.f3 = 0
    · rw [if_pos h0, if_pos h0]
    · rw [if_neg h0, if_neg h0]
      have hd : 0 < c.f3 := by omega
      have hi : c.f3 ≤ 9223372036854775807 := hc.2
      have hm1 : 0 ≤ x % c.f3 := Int.emod_nonneg x (by omega)
      have hm2 : x % c.f3 < c.f3 := Int.emod_lt_of_pos x hd
      have key : unit_Stop.f x c.f3 = some (if fits (x - x % c.f3 + c.f3) then (x - x % c.f3 + c.f3, 0) else (0, 10)) := by
        unfold unit_Stop.f
        rw [if_neg (by omega), if_neg h0]
        rcases tmod_cases (x := x) hd with ⟨ht, he⟩ | ⟨ht, he⟩
        · rw [if_pos ht, show wrap64 (x.tmod c.f3 + c.f3) = x % c.f3 by rw [he]; exact ws (by omega) (by omega), ws (x := -(x % c.f3)) (by omega) (by omega), sum_ok (by
            intro y hy
            simp at hy
            rcases hy with rfl | rfl | rfl
            · exact hx1
            · unfold in64; omega
            · exact hc) (by simp)]
          have es : [x, -(x % c.f3), c.f3].sum = x - x % c.f3 + c.f3 := by simp; omega
          rw [es]
          simp only [Option.bind_some]
        · rw [if_neg ht, ← he, ws (x := -(x % c.f3)) (by omega) (by omega), sum_ok (by
            intro y hy
            simp at hy
            rcases hy with rfl | rfl | rfl
            · exact hx1
            · unfold in64; omega
            · exact hc) (by simp)]
          have es : [x, -(x % c.f3), c.f3].sum = x - x % c.f3 + c.f3 := by simp; omega
          rw [es]
          simp only [Option.bind_some]
      rw [key]
      unfold fitO
      by_cases hf : fits (x - x % c.f3 + c.f3)
      · rw [if_pos hf, if_pos hf]; rfl
      · rw [if_neg hf, if_neg hf]; rfl
  · rw [if_neg h4, if_neg h4]
    simp only [tabs_Step.j0]
    rw [if_neg (by decide), if_neg h4, sum_ok (by
      intro y hy
      simp at hy
      rcases hy with rfl | rfl
      · exact hx1
      · exact hc) (by simp)]
    have es : [x, c.f3].sum = x + c.f3 := by simp
    rw [es]
    unfold fitO
    by_cases hf : fits (x + c.f3)
    · rw [if_pos hf, if_pos hf]; rfl
    · rw [if_neg hf, if_neg hf]; rfl
theorem nxt_fits {c : S44} {x y : Int} (hx : fits x) (h : nxt c x = some y) : fits y := by
  unfold nxt fitO at h
  split at h
  · split at h
    · cases h; exact hx
    · split at h
      · cases h; assumption
      · cases h
  · split at h
    · cases h; assumption
    · cases h
theorem nxtR_fits {r : Int} {c : S44} {x y : Int} (hx : fits x) (h : nxtR r c x = some y) : fits y := by
  unfold nxtR at h
  split at h
  · cases h; exact hx
  · exact nxt_fits hx h
theorem pen_eq {c : S44} (hc : okC c) (hb : badTab c = false) {r x : Int} (hx : fits x) : penOf c r x = some (match nxtR r c x with | some y => (y, 0) | none => (0, 10)) := by
  unfold penOf nxtR
  by_cases h : r = 1
  · rw [if_pos h, if_pos h]
  · rw [if_neg h, if_neg h]; exact step_eq hc hb hx
theorem lastE_cons {p : Int × Int} {ps : List (Int × Int)} (h : lastE ps = 10) : lastE (p :: ps) = 10 := by
  cases ps with
  | nil => cases h
  | cons q qs => exact h
theorem pensL_eq (rs : List Int) : ∀ (l : List S44) (i : Nat) (x : Int), (∀ c ∈ l, okC c ∧ badTab c = false) → fits x →
    ∃ ps, pensL rs l i x = some ps ∧ (match walk rs l i x with | some ys => ps = ys.map (fun y => (y, 0)) | none => lastE ps = 10)
  | [], i, x, _, _ => ⟨[], rfl, rfl⟩
  | c :: l, i, x, hl, hx => by
    obtain ⟨hc, hb⟩ := hl c (List.mem_cons_self ..)
    have hl2 : ∀ c ∈ l, okC c ∧ badTab c = false := fun d hd => hl d (List.mem_cons_of_mem _ hd)
    simp only [pensL, walk]
    rw [pen_eq hc hb hx]
    cases hn : nxtR (roleAt rs i) c x with
    | none => exact ⟨[(0, 10)], by simp, by simp [lastE]⟩
    | some y =>
      obtain ⟨ps, h1, h2⟩ := pensL_eq rs l (i + 1) y hl2 (nxtR_fits hx hn)
      refine ⟨(y, 0) :: ps, by simp [h1], ?_⟩
      simp only [Option.bind_some]
      cases hw : walk rs l (i + 1) y with
      | none => rw [hw] at h2; exact lastE_cons h2
      | some ys => rw [hw] at h2; simp only [Option.map_some]; rw [h2]; rfl
theorem pens_eq {l : List S44} {rs : List Int} {x : Int} (hlen : l.length ≤ 1000000000000) (hl : ∀ c ∈ l, okC c) (hx : in64 x) : tabs_Pens.f l rs x = some (pensR rs l x) := by
  unfold tabs_Pens.f pensR
  rw [if_pos hlen]
  by_cases hb : l.any badTab = true
  · rw [if_pos hb, if_pos hb]
  · rw [if_neg hb, if_neg hb]
    have s1 : unit_Sum.f [x] = some (if fits x then (x, 0) else (0, 10)) := by
      rw [sum_ok (by simpa using hx) (by simp)]
      simp
    rw [s1]
    by_cases hf : fits x
    · rw [if_pos hf, if_pos hf]
      simp only [Option.bind_some, if_true]
      have hl2 : ∀ c ∈ l, okC c ∧ badTab c = false := fun c hc => ⟨hl c hc, by
        cases h : badTab c with
        | false => rfl
        | true => exact absurd (List.any_eq_true.2 ⟨c, hc, h⟩) hb⟩
      obtain ⟨ps, h1, h2⟩ := pensL_eq rs l 0 x hl2 hf
      rw [h1]
      simp only [Option.bind_some]
      cases hw : walk rs l 0 x with
      | none => rw [hw] at h2; simp only at h2; rw [h2]; rfl
      | some ys =>
        rw [hw] at h2
        simp only at h2
        have hz : lastE ps = 0 := lastE_zero (fun q hq => by rw [h2] at hq; obtain ⟨y, _, rfl⟩ := List.mem_map.1 hq; rfl)
        rw [if_pos hz, h2, List.map_map]
        congr 2
        exact congrArg _ (List.map_id'' (fun _ => rfl) ys)
    · rw [if_neg hf, if_neg hf]
      simp
end Go.Proofs.Ytagdaniakfpnfaa.PureF

namespace Go.Proofs.Ytagdaniakfpnfaa.PureF
open Go.RowKit Go.Proofs.YtagdaniakfpnfaaW.PrintWords Go.Proofs.YtagdaniakfpnfaaW.PrintLast Go.Proofs.YtagdaniakfpnfaaW.PrintMore Go.Proofs.Ytagdaniakfpnfaa.Hand Go.Proofs.Ytagdaniakfpnfaa.HFillC
theorem i64_of {n : Int} (h : (Lit.int .i64 n).wf = true) : in64 n := by
  have h2 : IntKind.i64.min ≤ n ∧ n ≤ IntKind.i64.max := by simpa [Lit.wf] using h
  have e1 : IntKind.i64.min = -9223372036854775808 := rfl
  have e2 : IntKind.i64.max = 9223372036854775807 := rfl
  unfold in64
  omega
theorem u8_of {n : Int} (h : (Lit.int .u8 n).wf = true) : 0 ≤ n ∧ n ≤ 255 := by
  have h2 : IntKind.u8.min ≤ n ∧ n ≤ IntKind.u8.max := by simpa [Lit.wf] using h
  have e1 : IntKind.u8.min = 0 := rfl
  have e2 : IntKind.u8.max = 255 := rfl
  omega
theorem okC_of {c : S44} (h : W44 c) : okC c := i64_of h.2.2.2.1
theorem head_ev : Ev (fun k => stickfullaw14_head.f k) true := Ev.of (fun k => stickfullaw14_head.mono k) (k := 100) (by kernel_rfl)
theorem head_ev2 : Ev (fun k => (stickfullaw14_head.f k).bind fun t => some t) true := Ev.bind head_ev (Ev.now true)
theorem w1 {n : Nat} (h : n ≤ 1000000000) : wrap64 ((n : Int) + 1) = ((n + 1 : Nat) : Int) := by rw [ws (by omega) (by omega)]; rfl
/-- The pens behind cells, none of which is taken out. -/
def walk0 : List S44 → Int → Option (List Int)
  | [], _ => some []
  | c :: l, x => (nxt c x).bind fun y => (walk0 l y).map (y :: ·)
theorem walk_nil : ∀ (l : List S44) (i : Nat) (x : Int), walk [] l i x = walk0 l x
  | [], _, _ => rfl
  | c :: l, i, x => by
    have e : nxtR (roleAt [] i) c x = nxt c x := by
      unfold nxtR roleAt
      rw [if_neg (by simp; split <;> omega)]
    simp only [walk, walk0]
    rw [e]
    congr 1
    funext y
    rw [walk_nil l (i + 1) y]
def lastD : Int → List Int → Int
  | x, [] => x
  | _, y :: ys => lastD y ys
theorem rd_last : ∀ (x : Int) (ys : List Int), rd (x :: ys) ((ys.length : Nat) : Int) = lastD x ys
  | x, [] => rfl
  | x, y :: ys => by
    rw [lastD, ← rd_last y ys]
    unfold rd
    simp [List.getD]
theorem walk0_len : ∀ {l : List S44} {x : Int} {ys : List Int}, walk0 l x = some ys → ys.length = l.length
  | [], x, ys, h => by simp only [walk0, Option.some.injEq] at h; rw [← h]; rfl
  | c :: l, x, ys, h => by
    simp only [walk0] at h
    obtain ⟨y, _, h2⟩ := Option.bind_eq_some_iff.1 h
    obtain ⟨zs, h3, h4⟩ := Option.map_eq_some_iff.1 h2
    rw [← h4]
    simp [walk0_len h3]
theorem walk0_append : ∀ (l1 l2 : List S44) (x : Int), walk0 (l1 ++ l2) x = (walk0 l1 x).bind fun ys => (walk0 l2 (lastD x ys)).map (ys ++ ·)
  | [], l2, x => by simp [walk0, lastD]
  | c :: l1, l2, x => by
    simp only [List.cons_append, walk0]
    cases hn : nxt c x with
    | none => rfl
    | some y =>
      simp only [Option.bind_some]
      rw [walk0_append l1 l2 y]
      cases hw : walk0 l1 y with
      | none => rfl
      | some ys =>
        simp only [Option.bind_some, Option.map_some, lastD]
        cases walk0 l2 (lastD y ys) <;> rfl
theorem walk0_fits : ∀ {l : List S44} {x : Int} {ys : List Int}, fits x → walk0 l x = some ys → fits (lastD x ys) ∧ ∀ y ∈ ys, fits y
  | [], x, ys, hx, h => by simp only [walk0, Option.some.injEq] at h; rw [← h]; exact ⟨hx, by simp⟩
  | c :: l, x, ys, hx, h => by
    simp only [walk0] at h
    obtain ⟨y, h1, h2⟩ := Option.bind_eq_some_iff.1 h
    obtain ⟨zs, h3, h4⟩ := Option.map_eq_some_iff.1 h2
    have hy := nxt_fits hx h1
    obtain ⟨g1, g2⟩ := walk0_fits hy h3
    rw [← h4]
    exact ⟨g1, fun z hz => by
      rcases List.mem_cons.1 hz with rfl | hz
      · exact hy
      · exact g2 z hz⟩
/-- What Pens tells: an error and no pens, or all pens. -/
theorem pensR_or (rs : List Int) (l : List S44) (x : Int) :
    (∃ e, e ≠ 0 ∧ (e = 2 ∨ e = 10) ∧ pensR rs l x = ([], e)) ∨ (∃ ys, pensR rs l x = (x :: ys, 0) ∧ walk rs l 0 x = some ys ∧ fits x ∧ l.any badTab = false) := by
  unfold pensR
  by_cases hb : l.any badTab = true
  · rw [if_pos hb]; exact .inl ⟨2, by decide, .inl rfl, rfl⟩
  · rw [if_neg hb]
    by_cases hf : fits x
    · rw [if_pos hf]
      cases walk rs l 0 x with
      | none => exact .inl ⟨10, by decide, .inr rfl, rfl⟩
      | some ys => exact .inr ⟨ys, rfl, rfl, hf, by simpa using hb⟩
    · rw [if_neg hf]; exact .inl ⟨10, by decide, .inr rfl, rfl⟩
theorem pensR_some {rs : List Int} {l : List S44} {x : Int} {ys : List Int} (hw : walk rs l 0 x = some ys) (hf : fits x) (hb : l.any badTab = false) : pensR rs l x = (x :: ys, 0) := by
  unfold pensR
  rw [hb, if_neg (by decide), if_pos hf, hw]
end Go.Proofs.Ytagdaniakfpnfaa.PureF

namespace Go.Proofs.Ytagdaniakfpnfaa.PureF
set_option linter.unusedVariables false
set_option linter.unusedSimpArgs false
open Go.RowKit Go.Proofs.YtagdaniakfpnfaaW.PrintWords Go.Proofs.YtagdaniakfpnfaaW.PrintLast Go.Proofs.YtagdaniakfpnfaaW.PrintMore Go.Proofs.Ytagdaniakfpnfaa.Hand Go.Proofs.Ytagdaniakfpnfaa.HFillC
/-- The role of a cell behind cells that are blank or not, ahead of others. -/
def roleZ (a : Bool) (c : S44) (s : List S44) : Int :=
  if c.f0 = 1 ∧ (a = true ∨ s.all blankB = true) then 1 else if c.f0 = 2 ∧ s.all hangB = true then 2 else 0
def rolesZ : Bool → List S44 → List Int
  | _, [] => []
  | a, c :: s => roleZ a c s :: rolesZ (a && blankB c) s
theorem rolesZ_len : ∀ (a : Bool) (l : List S44), (rolesZ a l).length = l.length
  | _, [] => rfl
  | a, c :: s => by simp [rolesZ, rolesZ_len (a && blankB c) s]
theorem rd_nat (l : List S44) {i : Nat} (hi : i < l.length) : rd_T44 l (i : Int) = l[i] := by
  unfold rd_T44
  simp [List.getD, hi]
theorem rolesZ_get : ∀ (a : Bool) (l : List S44) (i : Nat) (hi : i < l.length), rd (rolesZ a l) (i : Int) = roleZ (a && (l.take i).all blankB) l[i] (l.drop (i + 1))
  | _, [], i, hi => by simp at hi
  | a, c :: s, 0, hi => by simp [rolesZ, rd]
  | a, c :: s, i + 1, hi => by
    have h := rolesZ_get (a && blankB c) s i (by simpa using hi)
    simp only [rolesZ]
    have e : rd (roleZ a c s :: rolesZ (a && blankB c) s) ((i + 1 : Nat) : Int) = rd (rolesZ (a && blankB c) s) (i : Int) := by
      unfold rd
      simp [List.getD]
    rw [e, h]
    simp [List.take_succ_cons, Bool.and_assoc]
/-- The ways from the front, and from the back. -/
theorem way_up (l : List S44) (p : S44 → Bool) : ∀ (n : Nat) (i : Int), 0 ≤ i → (l.length : Int) - i < n → ∀ j : Int, j ∈ wayL l p 1 n i ↔ i ≤ j ∧ j < (l.length : Int) ∧ ∀ m : Int, i ≤ m → m ≤ j → p (rd_T44 l m) = true
  | 0, i, h0, hn, j => by
    simp only [wayL, List.not_mem_nil, false_iff]
    rintro ⟨h1, h2, h3⟩
    omega
  | n + 1, i, h0, hn, j => by
    have ih := way_up l p n (i + 1) (by omega) (by omega) j
    simp only [wayL]
    by_cases hc : 0 ≤ i ∧ i < (l.length : Int) ∧ p (rd_T44 l i) = true
    · rw [if_pos hc, List.mem_cons, ih]
      constructor
      · rintro (rfl | ⟨h1, h2, h3⟩)
        · exact ⟨by omega, hc.2.1, fun m h4 h5 => by rw [show m = j by omega]; exact hc.2.2⟩
        · exact ⟨by omega, h2, fun m h4 h5 => by
            by_cases hm : m = i
            · rw [hm]; exact hc.2.2
            · exact h3 m (by omega) h5⟩
      · rintro ⟨h1, h2, h3⟩
        by_cases hj : j = i
        · exact .inl hj
        · exact .inr ⟨by omega, h2, fun m h4 h5 => h3 m (by omega) h5⟩
    · rw [if_neg hc]
      simp only [List.not_mem_nil, false_iff]
      rintro ⟨h1, h2, h3⟩
      exact hc ⟨h0, by omega, h3 i (by omega) (by omega)⟩
theorem way_down (l : List S44) (p : S44 → Bool) : ∀ (n : Nat) (i : Int), i < (l.length : Int) → -1 ≤ i → i + 1 < n → ∀ j : Int, j ∈ wayL l p (-1) n i ↔ 0 ≤ j ∧ j ≤ i ∧ ∀ m : Int, j ≤ m → m ≤ i → p (rd_T44 l m) = true
  | 0, i, h0, h1, hn, j => by omega
  | n + 1, i, h0, h1, hn, j => by
    simp only [wayL]
    by_cases hc : 0 ≤ i ∧ i < (l.length : Int) ∧ p (rd_T44 l i) = true
    · have ih := way_down l p n (i + -1) (by omega) (by omega) (by omega) j
      rw [if_pos hc, List.mem_cons, ih]
      constructor
      · rintro (rfl | ⟨h1, h2, h3⟩)
        · exact ⟨hc.1, by omega, fun m h4 h5 => by rw [show m = j by omega]; exact hc.2.2⟩
        · exact ⟨h1, by omega, fun m h4 h5 => by
            by_cases hm : m = i
            · rw [hm]; exact hc.2.2
            · exact h3 m h4 (by omega)⟩
      · rintro ⟨h1, h2, h3⟩
        by_cases hj : j = i
        · exact .inl hj
        · exact .inr ⟨h1, by omega, fun m h4 h5 => h3 m h4 (by omega)⟩
    · rw [if_neg hc]
      simp only [List.not_mem_nil, false_iff]
      rintro ⟨h1, h2, h3⟩
      exact hc ⟨by omega, h0, h3 i (by omega) (by omega)⟩
theorem markL_len (l : List S44) (kind role : Int) : ∀ (is out : List Int), (markL l kind role is out).length = out.length
  | [], out => rfl
  | i :: is, out => by
    have := markL_len l kind role is (if (rd_T44 l i).f0 = kind then out.set i.toNat role else out)
    unfold markL at this ⊢
    rw [List.foldl_cons, this]
    split <;> simp
theorem rd_set (out : List Int) (i j : Nat) (v : Int) (hj : j < out.length) : rd (out.set i v) (j : Int) = if i = j then v else rd out (j : Int) := by
  unfold rd
  simp only [Int.toNat_natCast, List.getD_eq_getElem?_getD, List.getElem?_set]
  by_cases h : i = j
  · subst h; simp [hj]
  · simp [h]
theorem markL_get (l : List S44) (kind role : Int) (j : Nat) : ∀ (is out : List Int), (∀ i ∈ is, 0 ≤ i) → j < out.length → rd (markL l kind role is out) (j : Int) = if (j : Int) ∈ is ∧ (rd_T44 l (j : Int)).f0 = kind then role else rd out (j : Int)
  | [], out, _, hj => by simp [markL]
  | i :: is, out, hi, hj => by
    have hi0 : 0 ≤ i := hi i (List.mem_cons_self ..)
    have ih := markL_get l kind role j is (if (rd_T44 l i).f0 = kind then out.set i.toNat role else out) (fun x hx => hi x (List.mem_cons_of_mem _ hx)) (by split <;> simpa using hj)
    have e : markL l kind role (i :: is) out = markL l kind role is (if (rd_T44 l i).f0 = kind then out.set i.toNat role else out) := rfl
    rw [e, ih]
    by_cases hm : (j : Int) ∈ is
    · simp only [hm, List.mem_cons, or_true, true_and]
      by_cases hk : (rd_T44 l (j : Int)).f0 = kind
      · rw [if_pos hk, if_pos hk]
      · rw [if_neg hk, if_neg hk]
        by_cases h2 : (rd_T44 l i).f0 = kind
        · rw [if_pos h2, rd_set _ _ _ _ hj, if_neg (fun h => hk (by rw [show (j : Int) = i by omega]; exact h2))]
        · rw [if_neg h2]
    · rw [if_neg (fun h => hm h.1)]
      by_cases hij : (j : Int) = i
      · subst hij
        by_cases hk : (rd_T44 l (j : Int)).f0 = kind
        · rw [if_pos hk, if_pos ⟨List.mem_cons_self .., hk⟩, Int.toNat_natCast, rd_set _ _ _ _ hj, if_pos rfl]
        · rw [if_neg hk, if_neg (fun h => hk h.2)]
      · have hnot : ¬ ((j : Int) ∈ i :: is ∧ (rd_T44 l (j : Int)).f0 = kind) := fun h => by
          rcases List.mem_cons.1 h.1 with h3 | h3
          · exact hij h3
          · exact hm h3
        rw [if_neg hnot]
        by_cases h2 : (rd_T44 l i).f0 = kind
        · rw [if_pos h2, rd_set _ _ _ _ hj, if_neg (by omega)]
        · rw [if_neg h2]
theorem all_take (l : List S44) (p : S44 → Bool) (j : Nat) (hj : j < l.length) : (∀ m : Int, 0 ≤ m → m ≤ (j : Int) → p (rd_T44 l m) = true) ↔ (l.take j).all p = true ∧ p l[j] = true := by
  rw [List.all_eq_true]
  constructor
  · intro h
    refine ⟨fun x hx => ?_, by have := h j (by omega) (by omega); rw [rd_nat l hj] at this; exact this⟩
    obtain ⟨i, hi, rfl⟩ := List.getElem_of_mem hx
    rw [List.length_take] at hi
    have := h (i : Int) (by omega) (by omega)
    rw [rd_nat l (by omega)] at this
    rw [List.getElem_take]
    exact this
  · rintro ⟨h1, h2⟩ m hm0 hm1
    obtain ⟨i, rfl⟩ := Int.eq_ofNat_of_zero_le hm0
    rw [rd_nat l (by omega)]
    by_cases hij : i = j
    · subst hij; exact h2
    · exact h1 _ (List.mem_take_iff_getElem.2 ⟨i, by omega, rfl⟩)
theorem all_drop (l : List S44) (p : S44 → Bool) (j : Nat) (hj : j < l.length) : (∀ m : Int, (j : Int) ≤ m → m ≤ (l.length : Int) - 1 → p (rd_T44 l m) = true) ↔ p l[j] = true ∧ (l.drop (j + 1)).all p = true := by
  rw [List.all_eq_true]
  constructor
  · intro h
    refine ⟨by have := h j (by omega) (by omega); rw [rd_nat l hj] at this; exact this, fun x hx => ?_⟩
    obtain ⟨i, hi, rfl⟩ := List.getElem_of_mem hx
    rw [List.length_drop] at hi
    have := h ((j + 1 + i : Nat) : Int) (by omega) (by omega)
    rw [rd_nat l (by omega)] at this
    rw [List.getElem_drop]
    exact this
  · rintro ⟨h1, h2⟩ m hm0 hm1
    obtain ⟨i, rfl⟩ := Int.eq_ofNat_of_zero_le (show 0 ≤ m by omega)
    rw [rd_nat l (by omega)]
    by_cases hij : i = j
    · subst hij; exact h1
    · refine h2 _ (List.mem_drop_iff_getElem.2 ⟨i - (j + 1), by omega, ?_⟩)
      congr 1
      omega
theorem blank_of1 {c : S44} (h : c.f0 = 1) : blankB c = true := by unfold blankB; simp [h]
theorem hang_of2 {c : S44} (h : c.f0 = 2) : hangB c = true := by unfold hangB; simp [h]
theorem rolesL_eq (l : List S44) : rolesL l = rolesZ true l := by
  have hlen : (rolesL l).length = l.length := by unfold rolesL; rw [markL_len, markL_len, markL_len, List.length_replicate]
  refine List.ext_getElem (by rw [hlen, rolesZ_len]) fun j h1 h2 => ?_
  have hj : j < l.length := by omega
  have e1 : ∀ (x : List Int) (h : j < x.length), x[j] = rd x (j : Int) := fun x h => by unfold rd; simp [List.getD, h]
  rw [e1 _ h1, e1 _ h2, rolesZ_get true l j hj]
  have hup : ∀ i ∈ wayL l blankB 1 (l.length + 1) 0, 0 ≤ i := fun i hi => ((way_up l blankB _ 0 (by omega) (by omega) i).1 hi).1
  have hdn : ∀ p, ∀ i ∈ wayL l p (-1) (l.length + 1) ((l.length : Int) - 1), 0 ≤ i := fun p i hi => ((way_down l p _ ((l.length : Int) - 1) (by omega) (by omega) (by omega) i).1 hi).1
  unfold rolesL
  rw [markL_get _ _ _ _ _ _ (hdn _) (by rw [markL_len, markL_len, List.length_replicate]; exact hj), markL_get _ _ _ _ _ _ (hdn _) (by rw [markL_len, List.length_replicate]; exact hj), markL_get _ _ _ _ _ _ hup (by rw [List.length_replicate]; exact hj)]
  have a1 := all_take l blankB j hj
  have a2 := all_drop l blankB j hj
  have a3 := all_drop l hangB j hj
  have q1 : (j : Int) ∈ wayL l hangB (-1) (l.length + 1) ((l.length : Int) - 1) ↔ (hangB l[j] = true ∧ (l.drop (j + 1)).all hangB = true) := (way_down l hangB (l.length + 1) ((l.length : Int) - 1) (by omega) (by omega) (by omega) (j : Int)).trans ⟨fun h => a3.1 h.2.2, fun h => ⟨by omega, by omega, a3.2 h⟩⟩
  have q2 : (j : Int) ∈ wayL l blankB (-1) (l.length + 1) ((l.length : Int) - 1) ↔ (blankB l[j] = true ∧ (l.drop (j + 1)).all blankB = true) := (way_down l blankB (l.length + 1) ((l.length : Int) - 1) (by omega) (by omega) (by omega) (j : Int)).trans ⟨fun h => a2.1 h.2.2, fun h => ⟨by omega, by omega, a2.2 h⟩⟩
  have q3 : (j : Int) ∈ wayL l blankB 1 (l.length + 1) 0 ↔ ((l.take j).all blankB = true ∧ blankB l[j] = true) := (way_up l blankB (l.length + 1) 0 (by omega) (by omega) (j : Int)).trans ⟨fun h => a1.1 h.2.2, fun h => ⟨by omega, by omega, a1.2 h⟩⟩
  have cond : ∀ {p q : Prop} [hp : Decidable p] [hq : Decidable q] (_ : p ↔ q) (a b : Int), @ite Int p hp a b = @ite Int q hq a b := by
    intro p q hp hq h a b
    by_cases hh : p
    · rw [if_pos hh, if_pos (h.1 hh)]
    · rw [if_neg hh, if_neg (fun x => hh (h.2 x))]
  have z : rd (List.replicate l.length (0 : Int)) (j : Int) = 0 := by unfold rd; simp [List.getD, hj]
  have ef : (rd_T44 l (j : Int)).f0 = l[j].f0 := by rw [rd_nat l hj]
  rw [cond (and_congr_left' q1), cond (and_congr_left' q2), cond (and_congr_left' q3), z]
  simp only [ef]
  unfold roleZ
  by_cases k1 : l[j].f0 = 1
  · have k2 : ¬ l[j].f0 = 2 := by omega
    have kb := blank_of1 k1
    simp only [k1, kb]
    by_cases c1 : (l.drop (j + 1)).all blankB = true <;> by_cases c2 : (l.take j).all blankB = true <;> simp [c1, c2]
  · by_cases k2 : l[j].f0 = 2
    · have kb := hang_of2 k2
      simp only [k2, kb]
      by_cases c1 : (l.drop (j + 1)).all hangB = true <;> simp [c1]
    · simp [k1, k2]
theorem roles_ev {l : List S44} (hl : l.length ≤ 100000) : trim_Roles.f l = some (rolesZ true l) := by
  unfold trim_Roles.f
  rw [if_pos (by omega), rolesL_eq]
/-- What hangs is gone. -/
def unH (r : Int) : Int := if r = 2 then 1 else r
theorem hangG_len (t : List Int) : ∀ n, (hangG t n).length = t.length
  | 0 => rfl
  | n + 1 => by
    simp only [hangG]
    split <;> simp [hangG_len t n]
theorem hangG_get (t : List Int) (j : Nat) (hj : j < t.length) : ∀ n, n ≤ t.length → rd (hangG t n) (j : Int) = if j < n then unH (rd t (j : Int)) else rd t (j : Int)
  | 0, _ => by simp [hangG]
  | n + 1, hn => by
    have ih := hangG_get t j hj n (by omega)
    have en : ∀ x : List Int, rdOf (0 : Int) x (n : Int) = rd x (n : Int) := fun x => rfl
    simp only [hangG]
    rw [en]
    by_cases hjn : j = n
    · subst hjn
      rw [if_neg (by omega)] at ih
      rw [ih, if_pos (show j < j + 1 by omega)]
      unfold unH
      by_cases h2 : rd t (j : Int) = 2
      · rw [if_pos h2, if_pos h2, rd_set _ _ _ _ (by rw [hangG_len]; exact hj), if_pos rfl]
      · rw [if_neg h2, if_neg h2, ih]
    · have e : (j < n + 1) = (j < n) := by apply propext; omega
      simp only [e]
      rw [← ih]
      split
      · rw [rd_set _ _ _ _ (by rw [hangG_len]; exact hj), if_neg (by omega)]
      · rfl
theorem hangG_map (t : List Int) : hangG t t.length = t.map unH := by
  refine List.ext_getElem (by rw [hangG_len, List.length_map]) fun j h1 h2 => ?_
  rw [List.length_map] at h2
  have := hangG_get t j h2 t.length (Nat.le_refl _)
  rw [if_pos h2] at this
  have e1 : ∀ (x : List Int) (h : j < x.length), x[j] = rd x (j : Int) := fun x h => by unfold rd; simp [List.getD, h]
  rw [List.getElem_map, e1 _ h1, this, e1 _ h2]
/-- The end of what is walked. -/
def endR (rs : List Int) (l : List S44) (x : Int) : Int × Int := if (pensR rs l x).2 = 0 then (lastD x (pensR rs l x).1.tail, 0) else (0, (pensR rs l x).2)
theorem walk_len : ∀ {rs : List Int} {l : List S44} {i : Nat} {x : Int} {ys : List Int}, walk rs l i x = some ys → ys.length = l.length
  | rs, [], i, x, ys, h => by simp only [walk, Option.some.injEq] at h; rw [← h]; rfl
  | rs, c :: l, i, x, ys, h => by
    simp only [walk] at h
    obtain ⟨y, _, h2⟩ := Option.bind_eq_some_iff.1 h
    obtain ⟨zs, h3, h4⟩ := Option.map_eq_some_iff.1 h2
    rw [← h4]
    simp [walk_len h3]
theorem end_tail {rs : List Int} {l : List S44} {x : Int} (hlen : l.length ≤ 100000) {bt : List Int × Int} (hb : bt = pensR rs l x) :
    (if bt.2 = 0 then (if 0 ≤ (wrap64 ((bt.1.length : Int) - 1)) then (if (wrap64 ((bt.1.length : Int) - 1)) < (bt.1.length : Int) then (some (rd bt.1 (wrap64 ((bt.1.length : Int) - 1)), (0 : Int))) else (none)) else (none)) else (some (0, bt.2))) = some (endR rs l x) := by
  subst hb
  unfold endR
  rcases pensR_or rs l x with ⟨e, he, _, hp⟩ | ⟨ys, hp, hw, _, _⟩
  · rw [hp, if_neg he, if_neg he]
  · rw [hp, if_pos rfl, if_pos rfl]
    have hy := walk_len hw
    have e1 : wrap64 (((x :: ys).length : Int) - 1) = (ys.length : Int) := by rw [ws (by simp only [List.length_cons]; omega) (by simp only [List.length_cons]; omega)]; simp only [List.length_cons]; omega
    simp only []
    rw [e1, if_pos (by omega), if_pos (by simp only [List.length_cons]; omega), rd_last]
    rfl
theorem end_eq {rs : List Int} {l : List S44} {x : Int} (hlen : l.length ≤ 100000) (hl : ∀ c ∈ l, okC c) (hx : in64 x) : tabs_End.f l rs x = some (endR rs l x) := by
  unfold tabs_End.f
  rw [pens_eq (by omega) hl hx]
  exact end_tail hlen rfl
theorem fits_eq {l : List S44} {x : Int} (hlen : l.length ≤ 100000) (hl : ∀ c ∈ l, okC c) (hx : in64 x) : trim_Fits.f l x = some (endR ((rolesZ true l).map unH) l x) := by
  unfold trim_Fits.f
  rw [roles_ev hlen, Option.bind_some, hangG_map, end_eq hlen hl hx]
  rfl
end Go.Proofs.Ytagdaniakfpnfaa.PureF

namespace Go.Proofs.Ytagdaniakfpnfaa.PureF
set_option linter.unusedVariables false
set_option linter.unusedSimpArgs false
open Go.RowKit Go.Proofs.YtagdaniakfpnfaaW.PrintWords Go.Proofs.YtagdaniakfpnfaaW.PrintLast Go.Proofs.YtagdaniakfpnfaaW.PrintMore Go.Proofs.Ytagdaniakfpnfaa.Hand Go.Proofs.Ytagdaniakfpnfaa.HFillC
theorem tdm (x : Int) : 1000000 * x.tdiv 1000000 + x.tmod 1000000 = x ∧ -1000000 < x.tmod 1000000 ∧ x.tmod 1000000 < 1000000 := by
  have h := Int.mul_tdiv_add_tmod x 1000000
  refine ⟨h, ?_, Int.tmod_lt_of_pos x (by decide)⟩
  have := Int.tmod_lt_of_pos (-x) (show (0 : Int) < 1000000 by decide)
  rw [Int.neg_tmod] at this
  omega
def sumE (s : Int) : Int × Int := if fits s then (s, 0) else (0, 10)
theorem rd_int (l : List Int) {i : Nat} (hi : i < l.length) : rd l (i : Int) = l[i] := by unfold rd; simp [List.getD, hi]
theorem pair_eta (p : Int × Int) : (p.1, p.2) = p := rfl
def penR (acc : List Int) (o : Option (List Int)) : List Int × Int := match o with | some ys => (acc ++ ys, 0) | none => ([], 10)
def justP (a b : Int) (c : S44) : Bool := edgeB c || (c.f0 == a || c.f0 == b)
theorem just11 : justP 1 1 = blankB := by funext c; unfold justP blankB; simp
theorem just12 : justP 1 2 = hangB := by funext c; unfold justP hangB blankB; simp [Bool.or_assoc]
theorem take_rd (t : List Int) {i : Nat} (hi : i < t.length) : t.take i ++ [rd t (i : Int)] = t.take (i + 1) := by
  rw [List.take_add_one, List.getElem?_eq_getElem hi, rd_int t hi]; rfl
def blkAt (l : List S44) (i : Nat) : Bool := (rd (rolesZ true l) (i : Int) == 1) || edgeB (rd_T44 l (i : Int))
def blkR (l : List S44) : Nat → Nat → Bool
  | 0, _ => true
  | r + 1, i => blkAt l i && blkR l r (i + 1)
theorem tedge (c : S44) : trim_edge.f c.f0 c.f1 c.f2 c.f3 c.f4 c.f5 = some (edgeB c) := edge_eq c
theorem tblank_l0 (l : List S44) (hlen : l.length ≤ 100000) : ∀ (r i : Nat), i + r = l.length → Ev (fun k => trim_Blank.l0 k l (rolesZ true l) ((rolesZ true l).length : Int) (i : Int)) (blkR l r i) := by
  have hz := rolesZ_len true l
  intro r
  induction r with
  | zero =>
    intro i hi
    refine Ev.step (f := fun _ => some true) (fun k => ?_) (Ev.now _)
    simp only [trim_Blank.l0]
    rw [if_neg (by omega)]
  | succ r ih =>
    intro i hi
    have h2 : ∀ k, trim_Blank.l0 (k + 1) l (rolesZ true l) ((rolesZ true l).length : Int) (i : Int) = if rd (rolesZ true l) (i : Int) = 1 then trim_Blank.l0 k l (rolesZ true l) ((rolesZ true l).length : Int) ((i + 1 : Nat) : Int) else (if edgeB (rd_T44 l (i : Int)) = true then trim_Blank.l0 k l (rolesZ true l) ((rolesZ true l).length : Int) ((i + 1 : Nat) : Int) else some false) := by
      intro k
      simp only [trim_Blank.l0]
      rw [if_pos (by omega), if_pos (by omega), if_pos (by omega), if_pos (show (i : Int) < (l.length : Int) by omega), tedge, Option.bind_some, w1 (by omega)]
    refine Ev.step h2 ?_
    simp only [blkR, blkAt]
    by_cases h1 : rd (rolesZ true l) (i : Int) = 1
    · rw [show (rd (rolesZ true l) (i : Int) == 1) = true by simpa using h1, Bool.true_or, Bool.true_and]
      exact Ev.congr (fun k => if_pos h1) (ih (i + 1) (by omega))
    · rw [show (rd (rolesZ true l) (i : Int) == 1) = false by simpa using h1, Bool.false_or]
      refine Ev.congr (fun k => if_neg h1) ?_
      by_cases he : edgeB (rd_T44 l (i : Int)) = true
      · rw [he, Bool.true_and]
        exact Ev.congr (fun k => if_pos rfl) (ih (i + 1) (by omega))
      · rw [show edgeB (rd_T44 l (i : Int)) = false by simpa using he, Bool.false_and]
        exact Ev.congr (fun k => if_neg (by decide)) (Ev.now _)
theorem tblank_ev (l : List S44) (hlen : l.length ≤ 100000) : Ev (fun k => trim_Blank.f k l) (blkR l l.length 0) := by
  unfold trim_Blank.f
  rw [roles_ev hlen]
  exact tblank_l0 l hlen l.length 0 (by omega)
end Go.Proofs.Ytagdaniakfpnfaa.PureF
namespace Go.Proofs.Ytagdaniakfpnfaa.PureF
set_option linter.unusedVariables false
set_option linter.unusedSimpArgs false
open Go.RowKit Go.Proofs.YtagdaniakfpnfaaW.PrintWords Go.Proofs.YtagdaniakfpnfaaW.PrintLast Go.Proofs.YtagdaniakfpnfaaW.PrintMore Go.Proofs.Ytagdaniakfpnfaa.Hand Go.Proofs.Ytagdaniakfpnfaa.HFillC
theorem seg_mem {l : List S44} {a b : Int} {c : S44} (h : c ∈ segL l a b) : c ∈ l := List.mem_of_mem_take (List.mem_of_mem_drop h)
theorem seg_len (l : List S44) (a b : Int) : (segL l a b).length ≤ l.length := by
  unfold segL
  rw [List.length_drop, List.length_take]
  omega
def bl (s : List S44) : Bool := blkR s s.length 0
/-- Whether cells, and a place, may be. -/
def mayR (l : List S44) (fr : Int) : Bool := !l.any badTab && (decide (0 ≤ fr) && decide (fr ≤ (l.length : Int)))
theorem bad_iff (c : S44) : badTab c = true ↔ c.f0 = 4 ∧ c.f3 < 0 := by unfold badTab; simp
theorem may_end (l : List S44) (fr : Int) (h : l.any badTab = false) : (if fr ≥ 0 then (some (decide (fr ≤ (l.length : Int)))) else (some false)) = some (mayR l fr) := by
  unfold mayR
  rw [h]
  by_cases h0 : 0 ≤ fr
  · rw [if_pos h0, decide_eq_true h0]; rfl
  · rw [if_neg h0, decide_eq_false h0]; rfl
theorem any_snoc {l : List S44} {i : Nat} (hi : i < l.length) : (l.take (i + 1)).any badTab = ((l.take i).any badTab || badTab l[i]) := by
  rw [List.take_add_one, List.any_append, List.getElem?_eq_getElem hi]
  simp
theorem pmay_l0 (l : List S44) (fr : Int) (hlen : l.length ≤ 100000) : ∀ (r i : Nat), i + r = l.length → (l.take i).any badTab = false → Ev (fun k => fill_may.l0 k l fr l (l.length : Int) (i : Int)) (mayR l fr) := by
  intro r
  induction r with
  | zero =>
    intro i hi hb
    rw [List.take_of_length_le (by omega)] at hb
    refine Ev.step (f := fun _ => some (mayR l fr)) (fun k => ?_) (Ev.now _)
    simp only [fill_may.l0]
    rw [if_neg (by omega)]
    exact may_end l fr hb
  | succ r ih =>
    intro i hi hb
    by_cases hc : badTab l[i] = true
    · have h2 := (bad_iff _).1 hc
      have e : mayR l fr = false := by
        unfold mayR
        rw [List.any_eq_true.2 ⟨l[i], List.getElem_mem _, hc⟩]; rfl
      rw [e]
      refine Ev.step (f := fun _ => some false) (fun k => ?_) (Ev.now _)
      simp only [fill_may.l0]
      rw [if_pos (by omega), if_pos (by omega), if_pos (by omega), rd_nat l (by omega), if_pos h2.1, if_pos h2.2]
    · refine Ev.step (fun k => ?_) (ih (i + 1) (by omega) (by rw [any_snoc (by omega), hb]; simpa using hc))
      simp only [fill_may.l0]
      rw [if_pos (by omega), if_pos (by omega), if_pos (by omega), rd_nat l (by omega), w1 (by omega)]
      by_cases h4 : l[i].f0 = 4
      · rw [if_pos h4, if_neg (fun h => hc ((bad_iff _).2 ⟨h4, h⟩))]
      · rw [if_neg h4]
theorem pmay_ev (l : List S44) (fr : Int) (hlen : l.length ≤ 100000) : Ev (fun k => fill_may.f k l fr) (mayR l fr) := pmay_l0 l fr hlen l.length 0 (by omega) rfl
/-- The last end from a place on, and whether it is forced. -/
def last1 (l : List S44) : Nat → Nat → Int × Bool
  | 0, i => ((i : Int), true)
  | r + 1, i => if (rd_T44 l (i : Int)).f0 = 8 then last1 l r (i + 1) else ((i : Int), true)
def last0 (l : List S44) : Nat → Nat → Int × Bool
  | 0, _ => ((l.length : Int), false)
  | r + 1, i => if (rd_T44 l (i : Int)).f0 = 5 then last1 l r (i + 1) else last0 l r (i + 1)
def lastR (l : List S44) (fr : Nat) : Int × Bool := last0 l (l.length - fr) fr
theorem last1_le (l : List S44) : ∀ (r i : Nat), i + r = l.length → (i : Int) ≤ (last1 l r i).1 ∧ (last1 l r i).1 ≤ (l.length : Int)
  | 0, i, h => by simp only [last1]; omega
  | r + 1, i, h => by
    simp only [last1]
    split
    · have := last1_le l r (i + 1) (by omega)
      omega
    · simp only; omega
theorem last0_le (l : List S44) : ∀ (r i : Nat), i + r = l.length → (last0 l r i).1 ≤ (l.length : Int) ∧ (0 < r → (i : Int) < (last0 l r i).1) ∧ ((last0 l r i).2 = false → (last0 l r i).1 = (l.length : Int)) ∧ (r = 0 → (last0 l r i).2 = false)
  | 0, i, h => by simp only [last0]; simp
  | r + 1, i, h => by
    simp only [last0]
    split
    · have := last1_le l r (i + 1) (by omega)
      have e : ∀ (r i : Nat), (last1 l r i).2 = true := by
        intro r
        induction r with
        | zero => intro i; rfl
        | succ r ih => intro i; simp only [last1]; split <;> first | exact ih _ | rfl
      refine ⟨this.2, fun _ => by omega, fun hf => (by rw [e] at hf; cases hf), fun hr => (by omega)⟩
    · obtain ⟨g1, g2, g3, g4⟩ := last0_le l r (i + 1) (by omega)
      refine ⟨g1, fun _ => ?_, g3, fun hr => by omega⟩
      cases r with
      | zero => simp only [last0]; omega
      | succ r => have := g2 (by omega); omega
theorem plast1 (l : List S44) (hlen : l.length ≤ 100000) : ∀ (r i : Nat), i + r = l.length → Ev (fun k => fill_last.l1 k l (i : Int)) (last1 l r i) := by
  intro r
  induction r with
  | zero =>
    intro i hi
    refine Ev.step (f := fun _ => some ((i : Int), true)) (fun k => ?_) (Ev.now _)
    simp only [fill_last.l1]
    rw [if_neg (by omega)]
  | succ r ih =>
    intro i hi
    simp only [last1]
    have e : ∀ k, fill_last.l1 (k + 1) l (i : Int) = if (rd_T44 l (i : Int)).f0 = 8 then fill_last.l1 k l ((i + 1 : Nat) : Int) else some ((i : Int), true) := by
      intro k
      simp only [fill_last.l1]
      rw [if_pos (by omega), if_pos (by omega), w1 (by omega)]
    refine Ev.step e ?_
    by_cases h8 : (rd_T44 l (i : Int)).f0 = 8
    · rw [if_pos h8]; exact Ev.congr (fun k => if_pos h8) (ih (i + 1) (by omega))
    · rw [if_neg h8]; exact Ev.congr (fun k => if_neg h8) (Ev.now _)
theorem plast0 (l : List S44) (hlen : l.length ≤ 100000) : ∀ (r i : Nat), i + r = l.length → Ev (fun k => fill_last.l0 k l (i : Int)) (last0 l r i) := by
  intro r
  induction r with
  | zero =>
    intro i hi
    refine Ev.step (f := fun _ => some ((l.length : Int), false)) (fun k => ?_) (Ev.now _)
    simp only [fill_last.l0]
    rw [if_neg (by omega)]
  | succ r ih =>
    intro i hi
    simp only [last0]
    have e : ∀ k, fill_last.l0 (k + 1) l (i : Int) = if (rd_T44 l (i : Int)).f0 = 5 then fill_last.l1 k l ((i + 1 : Nat) : Int) else fill_last.l0 k l ((i + 1 : Nat) : Int) := by
      intro k
      simp only [fill_last.l0]
      rw [if_pos (by omega), if_pos (by omega), w1 (by omega)]
    refine Ev.step e ?_
    by_cases h5 : (rd_T44 l (i : Int)).f0 = 5
    · rw [if_pos h5]; exact Ev.congr (fun k => if_pos h5) (plast1 l hlen r (i + 1) (by omega))
    · rw [if_neg h5]; exact Ev.congr (fun k => if_neg h5) (ih (i + 1) (by omega))
theorem plast_ev (l : List S44) (hlen : l.length ≤ 100000) (fr : Nat) (h : fr ≤ l.length) : Ev (fun k => fill_last.f k l (fr : Int)) (lastR l fr) := plast0 l hlen (l.length - fr) fr (by omega)
/-- The ends of a kind, from a place on. -/
def endsR (l : List S44) (fr te : Int) (is : S44 → Bool) : Nat → Int → List Int
  | 0, _ => []
  | n + 1, p => if p < te then (if is (rd_T44 l p) = true then (if bl (segL l fr p) = true then endsR l fr te is n (p + 1) else p :: endsR l fr te is n (p + 1)) else endsR l fr te is n (p + 1)) else []
theorem endsO_ev (l : List S44) (hlen : l.length ≤ 100000) (fr te : Int) (is : S44 → Bool) : ∀ (n : Nat) (p : Int), Ev (fun k => endsO k l fr te is n p) (endsR l fr te is n p)
  | 0, _ => Ev.now _
  | n + 1, p => by
    have ih := endsO_ev l hlen fr te is n (p + 1)
    simp only [endsO, endsR]
    by_cases hp : p < te
    · rw [if_pos hp]
      refine Ev.congr (fun k => if_pos hp) ?_
      by_cases hi : is (rd_T44 l p) = true
      · rw [if_pos hi]
        refine Ev.congr (fun k => if_pos hi) ?_
        refine Ev.bind (tblank_ev (segL l fr p) (Nat.le_trans (seg_len l fr p) hlen)) (Ev.bind ih ?_)
        show Ev _ (if bl (segL l fr p) = true then _ else _)
        by_cases hb : bl (segL l fr p) = true
        · rw [if_pos hb]; exact Ev.congr (fun k => congrArg some (if_pos hb)) (Ev.now _)
        · rw [if_neg hb]; exact Ev.congr (fun k => congrArg some (if_neg hb)) (Ev.now _)
      · rw [if_neg hi]
        exact Ev.congr (fun k => if_neg hi) ih
    · rw [if_neg hp]
      exact Ev.congr (fun k => if_neg hp) (Ev.now _)
def EndsR (l : List S44) (fr : Nat) : List Int × List Int × Int :=
  (endsR l (fr : Int) (lastR l fr).1 (fun c => c.f4) (l.length + 1) ((fr : Int) + 1) ++ [(lastR l fr).1], endsR l (fr : Int) (lastR l fr).1 (fun c => c.f5) (l.length + 1) ((fr : Int) + 1), 0)
theorem pends_ev (l : List S44) (hlen : l.length ≤ 100000) (fr : Nat) (hfr : fr ≤ l.length) : Ev (fun k => fill_Ends.f k l (fr : Int)) (if mayR l (fr : Int) = true then EndsR l fr else ([], [], 2)) := by
  unfold fill_Ends.f
  refine Ev.bind (pmay_ev l _ hlen) ?_
  by_cases hm : mayR l (fr : Int) = true
  · rw [if_pos hm]
    refine Ev.congr (fun k => if_pos hm) (Ev.bind (plast_ev l hlen fr hfr) ?_)
    have hl := last0_le l (l.length - fr) fr (by omega)
    refine Ev.congr (fun k => if_pos ⟨by omega, by omega, hl.1, by omega⟩) ?_
    exact Ev.bind (endsO_ev l hlen _ _ _ _ _) (Ev.bind (endsO_ev l hlen _ _ _ _ _) (Ev.now _))
  · rw [if_neg hm]
    exact Ev.congr (fun k => if_neg hm) (Ev.now _)
end Go.Proofs.Ytagdaniakfpnfaa.PureF
namespace Go.Proofs.Ytagdaniakfpnfaa.PureF
set_option linter.unusedVariables false
set_option linter.unusedSimpArgs false
open Go.RowKit Go.Proofs.YtagdaniakfpnfaaW.PrintWords Go.Proofs.YtagdaniakfpnfaaW.PrintLast Go.Proofs.YtagdaniakfpnfaaW.PrintMore Go.Proofs.Ytagdaniakfpnfaa.Hand Go.Proofs.Ytagdaniakfpnfaa.HFillC
/-- Whether a line fits. -/
def fitR (l : List S44) (fr wd st p : Int) : Bool × Int := (decide ((endR ((rolesZ true (segL l fr p)).map unH) (segL l fr p) st).1 ≤ wd), (endR ((rolesZ true (segL l fr p)).map unH) (segL l fr p) st).2)
theorem fitO1_eq {l : List S44} (hlen : l.length ≤ 100000) (hl : ∀ c ∈ l, okC c) {fr wd st p : Int} (hst : in64 st) (h : 0 ≤ fr ∧ fr ≤ p ∧ p ≤ (l.length : Int)) : fitO1 l fr wd st p = some (fitR l fr wd st p) := by
  unfold fitO1
  rw [if_pos h, fits_eq (Nat.le_trans (seg_len l fr p) hlen) (fun c hc => hl c (seg_mem hc)) hst]
  rfl
def reachR (f : Int → Bool × Int) : List Int → Bool → Int → Int × Bool × Int
  | [], _, p => (p, true, 0)
  | q :: qs, first, p => if (f q).2 = 0 then (if (f q).1 = true then reachR f qs false q else (if first = true then (q, false, 0) else (p, true, 0))) else (0, false, (f q).2)
theorem reachO_eq {F : Int → Option (Bool × Int)} {f : Int → Bool × Int} : ∀ (xs : List Int) (b : Bool) (p : Int), (∀ q ∈ xs, F q = some (f q)) → reachO F xs b p = some (reachR f xs b p)
  | [], _, _, _ => rfl
  | q :: qs, b, p, h => by
    simp only [reachO, reachR]
    rw [h q (List.mem_cons_self ..), Option.bind_some]
    by_cases h0 : (f q).2 = 0
    · rw [if_pos h0, if_pos h0]
      by_cases h1 : (f q).1 = true
      · rw [if_pos h1, if_pos h1]; exact reachO_eq qs false q (fun x hx => h x (List.mem_cons_of_mem _ hx))
      · rw [if_neg h1, if_neg h1]
        by_cases hb : b = true
        · rw [if_pos hb, if_pos hb]
        · rw [if_neg hb, if_neg hb]
    · rw [if_neg h0, if_neg h0]
/-- How many of some ends fit, one after the other. -/
def runR (f : Int → Bool × Int) : List Int → Nat → Int × Int
  | [], n => ((n : Int), 0)
  | q :: qs, n => if (f q).2 = 0 then (if (f q).1 = true then runR f qs (n + 1) else ((n : Int), 0)) else (0, (f q).2)
theorem reach_more (f : Int → Bool × Int) (L : List Int) : ∀ (xs : List Int) (n : Nat) (p : Int), L.drop (n + 1) = xs → n < L.length → rd L (n : Int) = p →
    ((runR f xs (n + 1)).2 ≠ 0 ∧ reachR f xs false p = (0, false, (runR f xs (n + 1)).2)) ∨ ((runR f xs (n + 1)).2 = 0 ∧ ∃ j : Nat, j < L.length ∧ (runR f xs (n + 1)).1 = ((j + 1 : Nat) : Int) ∧ reachR f xs false p = (rd L (j : Int), true, 0))
  | [], n, p, h, hn, hp => .inr ⟨rfl, n, hn, rfl, by rw [hp]; rfl⟩
  | q :: qs, n, p, h, hn, hp => by
    have hn1 : n + 1 < L.length := by
      rcases Nat.lt_or_ge (n + 1) L.length with h2 | h2
      · exact h2
      · rw [List.drop_of_length_le h2] at h; cases h
    rw [List.drop_eq_getElem_cons hn1] at h
    obtain ⟨h1, h2⟩ := List.cons.inj h
    simp only [runR, reachR]
    by_cases h0 : (f q).2 = 0
    · rw [if_pos h0, if_pos h0]
      by_cases hg : (f q).1 = true
      · rw [if_pos hg, if_pos hg]
        exact reach_more f L qs (n + 1) q h2 hn1 (by rw [rd_int L hn1]; exact h1)
      · rw [if_neg hg, if_neg hg, if_neg (by decide)]
        exact .inr ⟨rfl, n, hn, rfl, by rw [hp]⟩
    · rw [if_neg h0, if_neg h0]
      exact .inl ⟨h0, rfl⟩
theorem reach_run (f : Int → Bool × Int) {L : List Int} (hL : 0 < L.length) :
    ((runR f L 0).2 ≠ 0 ∧ reachR f L true 0 = (0, false, (runR f L 0).2)) ∨ ((runR f L 0).2 = 0 ∧ (runR f L 0).1 = 0 ∧ reachR f L true 0 = (rd L 0, false, 0)) ∨ ((runR f L 0).2 = 0 ∧ ∃ j : Nat, j < L.length ∧ (runR f L 0).1 = ((j + 1 : Nat) : Int) ∧ reachR f L true 0 = (rd L (j : Int), true, 0)) := by
  cases L with
  | nil => simp at hL
  | cons q qs =>
    simp only [runR, reachR]
    by_cases h0 : (f q).2 = 0
    · rw [if_pos h0, if_pos h0]
      by_cases hg : (f q).1 = true
      · rw [if_pos hg, if_pos hg]
        rcases reach_more f (q :: qs) qs 0 q rfl (by simp) rfl with h | ⟨h, j, h1, h2, h3⟩
        · exact .inl h
        · exact .inr (.inr ⟨h, j, h1, h2, h3⟩)
      · rw [if_neg hg, if_neg hg, if_pos trivial]
        exact .inr (.inl ⟨rfl, rfl, rfl⟩)
    · rw [if_neg h0, if_neg h0]
      exact .inl ⟨h0, rfl⟩
theorem ends_in (l : List S44) (fr te : Int) (is : S44 → Bool) : ∀ (n : Nat) (p : Int), ∀ q ∈ endsR l fr te is n p, p ≤ q ∧ q < te
  | 0, _, q, h => by cases h
  | n + 1, p, q, h => by
    have ih := ends_in l fr te is n (p + 1) q
    simp only [endsR] at h
    split at h
    · split at h
      · split at h
        · have := ih h; omega
        · rcases List.mem_cons.1 h with rfl | h
          · omega
          · have := ih h; omega
      · have := ih h; omega
    · cases h
theorem ends_len (l : List S44) (fr te : Int) (is : S44 → Bool) : ∀ (n : Nat) (p : Int), (endsR l fr te is n p).length ≤ n
  | 0, _ => Nat.le_refl _
  | n + 1, p => by
    have ih := ends_len l fr te is n (p + 1)
    simp only [endsR]
    split
    · split
      · split
        · omega
        · simp only [List.length_cons]; omega
      · omega
    · simp
theorem last_pos (l : List S44) {fr : Nat} (h : fr ≤ l.length) : (fr : Int) ≤ (lastR l fr).1 ∧ (lastR l fr).1 ≤ (l.length : Int) ∧ (fr < l.length → (fr : Int) < (lastR l fr).1) ∧ (fr = l.length → lastR l fr = ((l.length : Int), false)) := by
  obtain ⟨g1, g2, g3, g4⟩ := last0_le l (l.length - fr) fr (by omega)
  refine ⟨?_, g1, fun h2 => g2 (by omega), fun h2 => ?_⟩
  · by_cases h2 : fr < l.length
    · have := g2 (by omega)
      unfold lastR
      omega
    · have : l.length - fr = 0 := by omega
      unfold lastR
      rw [this]
      simp only [last0]
      omega
  · unfold lastR
    rw [h2, Nat.sub_self]
    rfl
theorem E1_in (l : List S44) {fr : Nat} (h : fr ≤ l.length) : ∀ q ∈ (EndsR l fr).1, (fr : Int) ≤ q ∧ q ≤ (l.length : Int) ∧ (fr < l.length → (fr : Int) < q) := by
  obtain ⟨p1, p2, p3, _⟩ := last_pos l h
  intro q hq
  unfold EndsR at hq
  simp only at hq
  rcases List.mem_append.1 hq with hq | hq
  · have := ends_in l _ _ _ _ _ q hq
    exact ⟨by omega, by omega, fun _ => by omega⟩
  · rw [List.mem_singleton] at hq
    rw [hq]
    exact ⟨p1, p2, p3⟩
theorem E2_in (l : List S44) {fr : Nat} (h : fr ≤ l.length) : ∀ q ∈ (EndsR l fr).2.1, (fr : Int) < q ∧ q ≤ (l.length : Int) ∧ fr < l.length := by
  obtain ⟨p1, p2, p3, p4⟩ := last_pos l h
  intro q hq
  have := ends_in l _ _ _ _ _ q hq
  refine ⟨by omega, by omega, ?_⟩
  rcases Nat.lt_or_ge fr l.length with h2 | h2
  · exact h2
  · have e := p4 (by omega)
    rw [e] at this
    simp only at this
    omega
theorem E1_pos (l : List S44) (fr : Nat) : 0 < (EndsR l fr).1.length ∧ (EndsR l fr).1.length ≤ l.length + 2 := by
  have := ends_len l (fr : Int) (lastR l fr).1 (fun c => c.f4) (l.length + 1) ((fr : Int) + 1)
  unfold EndsR
  simp only [List.length_append, List.length_cons, List.length_nil]
  omega
theorem E2_len (l : List S44) (fr : Nat) : (EndsR l fr).2.1.length ≤ l.length + 1 := ends_len l _ _ _ _ _
theorem near_in {E : List Int} {p : Int} : ∀ q ∈ nearL E p, q ∈ E ∧ q < p := fun q h => by
  unfold nearL at h
  have := List.mem_filter.1 h
  exact ⟨this.1, by simpa using this.2⟩
theorem near_len (E : List Int) (p : Int) : (nearL E p).length ≤ E.length := by unfold nearL; exact List.length_filter_le _ _
/-- What one line's end is, or the error. -/
def toR (l : List S44) (fr : Nat) (wd st : Int) : Int × Int :=
  if (reachR (fitR l fr wd st) (EndsR l fr).1 true 0).2.2 = 0 ∧ (reachR (fitR l fr wd st) (EndsR l fr).1 true 0).2.1 = false ∧ 0 < (nearL (EndsR l fr).2.1 (reachR (fitR l fr wd st) (EndsR l fr).1 true 0).1).length then
    ((reachR (fitR l fr wd st) (nearL (EndsR l fr).2.1 (reachR (fitR l fr wd st) (EndsR l fr).1 true 0).1) true 0).1, (reachR (fitR l fr wd st) (nearL (EndsR l fr).2.1 (reachR (fitR l fr wd st) (EndsR l fr).1 true 0).1) true 0).2.2)
  else ((reachR (fitR l fr wd st) (EndsR l fr).1 true 0).1, (reachR (fitR l fr wd st) (EndsR l fr).1 true 0).2.2)
def oneR (l : List S44) (fr : Nat) (wd st : Int) : Int × Int × Bool × Int :=
  if mayR l (fr : Int) = true then (if wd < 0 then (0, 0, false, 2) else (if (toR l fr wd st).2 = 0 then ((fr : Int), (toR l fr wd st).1, ((lastR l fr).2 && ((toR l fr wd st).1 == (lastR l fr).1)), 0) else (0, 0, false, (toR l fr wd st).2))) else (0, 0, false, 2)
theorem pone_ev {l : List S44} (hlen : l.length ≤ 100000) (hl : ∀ c ∈ l, okC c) {fr : Nat} (hfr : fr ≤ l.length) {wd st : Int} (hst : in64 st) : Ev (fun k => fill_One.f k l (fr : Int) wd st) (oneR l fr wd st) := by
  unfold fill_One.f oneR
  refine Ev.bind (pends_ev l hlen fr hfr) ?_
  by_cases hm : mayR l (fr : Int) = true
  · rw [if_pos hm, if_pos hm]
    refine Ev.congr (fun k => if_pos rfl) ?_
    by_cases hw : wd < 0
    · rw [if_pos hw]; exact Ev.congr (fun k => if_pos hw) (Ev.now _)
    · rw [if_neg hw]
      have hl2 := E2_len l fr
      refine Ev.congr (fun k => (if_neg hw).trans (if_pos (by omega))) ?_
      have hF : ∀ q, (fr : Int) ≤ q ∧ q ≤ (l.length : Int) → fitO1 l (fr : Int) wd st q = some (fitR l (fr : Int) wd st q) := fun q h => fitO1_eq hlen hl hst ⟨by omega, h.1, h.2⟩
      have r1 := reachO_eq (EndsR l fr).1 true 0 (fun q hq => hF q (by have := E1_in l hfr q hq; omega))
      rw [r1]
      refine Ev.bind (a := reachR (fitR l (fr : Int) wd st) (EndsR l fr).1 true 0) (Ev.now _) ?_
      refine Ev.bind (a := toR l fr wd st) (Ev.congr (fun k => ?_) (Ev.now _)) ?_
      · unfold toR
        by_cases hc : (reachR (fitR l (fr : Int) wd st) (EndsR l fr).1 true 0).2.2 = 0 ∧ (reachR (fitR l (fr : Int) wd st) (EndsR l fr).1 true 0).2.1 = false ∧ 0 < (nearL (EndsR l fr).2.1 (reachR (fitR l (fr : Int) wd st) (EndsR l fr).1 true 0).1).length
        · rw [if_pos hc, if_pos hc, reachO_eq (nearL (EndsR l fr).2.1 (reachR (fitR l (fr : Int) wd st) (EndsR l fr).1 true 0).1) true 0 (fun q hq => hF q (by have := E2_in l hfr q (near_in q hq).1; omega))]
          rfl
        · rw [if_neg hc, if_neg hc]
      · by_cases hz : (toR l fr wd st).2 = 0
        · rw [if_pos hz]
          refine Ev.congr (fun k => if_pos hz) ?_
          exact Ev.bind (plast_ev l hlen fr hfr) (Ev.now _)
        · rw [if_neg hz]
          exact Ev.congr (fun k => if_neg hz) (Ev.now _)
  · rw [if_neg hm, if_neg hm]
    exact Ev.congr (fun k => if_neg (by decide)) (Ev.now _)
theorem mx_sub {j : Nat} (hj : j ≤ 1000000) : mx (wrap64 (((j + 1 : Nat) : Int) - 1)) 0 = (j : Int) := by
  rw [ws (by omega) (by omega)]
  unfold mx
  split <;> omega
theorem mx_sub0 : mx (wrap64 ((0 : Int) - 1)) 0 = 0 := by
  rw [ws (by omega) (by omega)]
  unfold mx
  rw [if_pos (by omega)]
theorem rd_mem {l : List Int} {j : Nat} (h : j < l.length) : rd l (j : Int) ∈ l := by rw [rd_int l h]; exact List.getElem_mem _
theorem to_in {l : List S44} {fr : Nat} (hfr : fr ≤ l.length) {wd st : Int} (h : (toR l fr wd st).2 = 0) : (fr : Int) ≤ (toR l fr wd st).1 ∧ (toR l fr wd st).1 ≤ (l.length : Int) ∧ (fr < l.length → (fr : Int) < (toR l fr wd st).1) := by
  have hl1 := E1_pos l fr
  have m1 : ∀ j : Nat, j < (EndsR l fr).1.length → (fr : Int) ≤ rd (EndsR l fr).1 (j : Int) ∧ rd (EndsR l fr).1 (j : Int) ≤ (l.length : Int) ∧ (fr < l.length → (fr : Int) < rd (EndsR l fr).1 (j : Int)) := fun j hj => E1_in l hfr _ (rd_mem hj)
  rcases reach_run (fitR l (fr : Int) wd st) hl1.1 with ⟨g1, g2⟩ | ⟨g1, g2, g3⟩ | ⟨g1, j, g2, g3, g4⟩
  · unfold toR at h
    rw [g2, if_neg (fun h => g1 h.1)] at h
    exact absurd h g1
  · by_cases hnp : 0 < (nearL (EndsR l fr).2.1 (rd (EndsR l fr).1 0)).length
    · have m2 : ∀ j : Nat, j < (nearL (EndsR l fr).2.1 (rd (EndsR l fr).1 0)).length → (fr : Int) < rd (nearL (EndsR l fr).2.1 (rd (EndsR l fr).1 0)) (j : Int) ∧ rd (nearL (EndsR l fr).2.1 (rd (EndsR l fr).1 0)) (j : Int) ≤ (l.length : Int) := fun j hj => by
        have := E2_in l hfr _ (near_in _ (rd_mem hj)).1
        exact ⟨this.1, this.2.1⟩
      have et : toR l fr wd st = ((reachR (fitR l (fr : Int) wd st) (nearL (EndsR l fr).2.1 (rd (EndsR l fr).1 0)) true 0).1, (reachR (fitR l (fr : Int) wd st) (nearL (EndsR l fr).2.1 (rd (EndsR l fr).1 0)) true 0).2.2) := by
        unfold toR
        rw [g3, if_pos ⟨rfl, rfl, hnp⟩]
      rw [et] at h ⊢
      rcases reach_run (fitR l (fr : Int) wd st) hnp with ⟨k1, k2⟩ | ⟨k1, k2, k3⟩ | ⟨k1, j, k2, k3, k4⟩
      · rw [k2] at h; exact absurd h k1
      · rw [k3]
        have := m2 0 hnp
        exact ⟨by have := this.1; simp only; exact Int.le_of_lt this, this.2, fun _ => this.1⟩
      · rw [k4]
        have := m2 j k2
        exact ⟨Int.le_of_lt this.1, this.2, fun _ => this.1⟩
    · have et : toR l fr wd st = (rd (EndsR l fr).1 0, 0) := by
        unfold toR
        rw [g3, if_neg (fun h => hnp h.2.2)]
      rw [et]
      exact m1 0 hl1.1
  · have et : toR l fr wd st = (rd (EndsR l fr).1 (j : Int), 0) := by
      unfold toR
      rw [g4, if_neg (fun h => absurd (show true = false from h.2.1) (by decide))]
    rw [et]
    exact m1 j g2
theorem one_in {l : List S44} {fr : Nat} (hfr : fr ≤ l.length) {wd st : Int} (h : (oneR l fr wd st).2.2.2 = 0) : (oneR l fr wd st).1 = (fr : Int) ∧ (fr : Int) ≤ (oneR l fr wd st).2.1 ∧ (oneR l fr wd st).2.1 ≤ (l.length : Int) ∧ (fr < l.length → (fr : Int) < (oneR l fr wd st).2.1) ∧ (fr = l.length → (oneR l fr wd st).2.2.1 = false) := by
  unfold oneR at h ⊢
  by_cases hm : mayR l (fr : Int) = true
  · rw [if_pos hm] at h ⊢
    by_cases hw : wd < 0
    · rw [if_pos hw] at h; exact absurd h (by decide)
    · rw [if_neg hw] at h ⊢
      by_cases hz : (toR l fr wd st).2 = 0
      · rw [if_pos hz]
        obtain ⟨g1, g2, g3⟩ := to_in hfr hz
        refine ⟨rfl, g1, g2, g3, fun he => ?_⟩
        have := (last_pos l hfr).2.2.2 he
        simp only
        rw [this]
        rfl
      · rw [if_neg hz] at h; exact absurd h hz
  · rw [if_neg hm] at h; exact absurd h (by decide)
/-- All lines from a place on. -/
def linesR (l : List S44) (rw_ rs : Int) : Nat → Nat → Int → Int → List S35 × Int
  | 0, _, _, _ => ([], 0)
  | K + 1, at_, wd, st =>
    if (oneR l at_ wd st).2.2.2 = 0 then
      (if (oneR l at_ wd st).2.2.1 = true ∨ (oneR l at_ wd st).2.1 < (l.length : Int) then
        (if (linesR l rw_ rs K (oneR l at_ wd st).2.1.toNat rw_ rs).2 = 0 then (⟨(oneR l at_ wd st).1, (oneR l at_ wd st).2.1, (oneR l at_ wd st).2.2.1⟩ :: (linesR l rw_ rs K (oneR l at_ wd st).2.1.toNat rw_ rs).1, 0) else ([], (linesR l rw_ rs K (oneR l at_ wd st).2.1.toNat rw_ rs).2))
      else ([⟨(oneR l at_ wd st).1, (oneR l at_ wd st).2.1, (oneR l at_ wd st).2.2.1⟩], 0))
    else ([], (oneR l at_ wd st).2.2.2)
def accL (acc : List S35) (r : List S35 × Int) : List S35 × Int := if r.2 = 0 then (acc ++ r.1, 0) else ([], r.2)
theorem plines_l0 {l : List S44} (hlen : l.length ≤ 1000) (hl : ∀ c ∈ l, okC c) {rw_ rs : Int} (hrs : in64 rs) : ∀ (K at_ : Nat) (wd st : Int) (acc : List S35), in64 st → at_ ≤ l.length → l.length < at_ + K → acc.length ≤ at_ →
    Ev (fun k => fill_Lines.l0 k l acc (at_ : Int) true rw_ rs wd st) (accL acc (linesR l rw_ rs K at_ wd st))
  | 0, at_, wd, st, acc, _, h1, h2, _ => by omega
  | K + 1, at_, wd, st, acc, hst, h1, h2, h3 => by
    have e : ∀ k, fill_Lines.l0 (k + 1) l acc (at_ : Int) true rw_ rs wd st = (fill_One.f k l (at_ : Int) wd st).bind fun bt158 => (if bt158.2.2.2 = 0 then (if acc.length < 5864062014805 then ((some (acc ++ [(⟨bt158.1, bt158.2.1, bt158.2.2.1⟩ : S35)] : List (S35))).bind fun y163 => (if bt158.2.2.1 = true then (fill_Lines.l0 k l y163 bt158.2.1 true rw_ rs rw_ rs) else (fill_Lines.l0 k l y163 bt158.2.1 (decide (bt158.2.1 < (l.length : Int))) rw_ rs rw_ rs))) else (none)) else (some (([] : List (S35)), bt158.2.2.2))) := by
      intro k
      simp only [fill_Lines.l0]
      rw [if_pos trivial]
    refine Ev.step e (Ev.bind (pone_ev (by omega) hl h1 hst) ?_)
    simp only [linesR]
    by_cases he : (oneR l at_ wd st).2.2.2 = 0
    · obtain ⟨o1, o2, o3, o4, o5⟩ := one_in h1 he
      rw [if_pos he]
      refine Ev.congr (fun k => (if_pos he).trans (if_pos (by omega))) ?_
      refine Ev.bind (a := acc ++ [(⟨(oneR l at_ wd st).1, (oneR l at_ wd st).2.1, (oneR l at_ wd st).2.2.1⟩ : S35)]) (Ev.now _) ?_
      have hat : ((oneR l at_ wd st).2.1.toNat : Int) = (oneR l at_ wd st).2.1 := by omega
      by_cases hm : (oneR l at_ wd st).2.2.1 = true ∨ (oneR l at_ wd st).2.1 < (l.length : Int)
      · rw [if_pos hm]
        have hlt : at_ < l.length := by
          rcases Nat.lt_or_ge at_ l.length with h | h
          · exact h
          · exfalso
            have := o5 (by omega)
            rcases hm with hm | hm
            · rw [this] at hm; cases hm
            · omega
        have hgo := o4 hlt
        have ih := plines_l0 (rw_ := rw_) hlen hl hrs K (oneR l at_ wd st).2.1.toNat rw_ rs (acc ++ [(⟨(oneR l at_ wd st).1, (oneR l at_ wd st).2.1, (oneR l at_ wd st).2.2.1⟩ : S35)]) hrs (by omega) (by omega) (by simp; omega)
        rw [hat] at ih
        have ea : accL acc (if (linesR l rw_ rs K (oneR l at_ wd st).2.1.toNat rw_ rs).2 = 0 then ((⟨(oneR l at_ wd st).1, (oneR l at_ wd st).2.1, (oneR l at_ wd st).2.2.1⟩ : S35) :: (linesR l rw_ rs K (oneR l at_ wd st).2.1.toNat rw_ rs).1, 0) else ([], (linesR l rw_ rs K (oneR l at_ wd st).2.1.toNat rw_ rs).2)) = accL (acc ++ [(⟨(oneR l at_ wd st).1, (oneR l at_ wd st).2.1, (oneR l at_ wd st).2.2.1⟩ : S35)]) (linesR l rw_ rs K (oneR l at_ wd st).2.1.toNat rw_ rs) := by
          unfold accL
          by_cases hz : (linesR l rw_ rs K (oneR l at_ wd st).2.1.toNat rw_ rs).2 = 0
          · rw [if_pos hz, if_pos rfl, if_pos hz]; simp
          · rw [if_neg hz, if_neg hz, if_neg hz]
        rw [ea]
        by_cases hf : (oneR l at_ wd st).2.2.1 = true
        · exact Ev.congr (fun k => if_pos hf) ih
        · refine Ev.congr (fun k => if_neg hf) ?_
          rw [decide_eq_true (hm.resolve_left hf)]
          exact ih
      · rw [if_neg hm]
        have hf : ¬ (oneR l at_ wd st).2.2.1 = true := fun h => hm (.inl h)
        refine Ev.congr (fun k => if_neg hf) ?_
        rw [decide_eq_false (fun h => hm (.inr h))]
        refine Ev.step (f := fun _ => some (acc ++ [(⟨(oneR l at_ wd st).1, (oneR l at_ wd st).2.1, (oneR l at_ wd st).2.2.1⟩ : S35)], 0)) (fun k => ?_) (by unfold accL; rw [if_pos rfl]; exact Ev.now _)
        simp only [fill_Lines.l0]
        rw [if_neg (by decide)]
    · rw [if_neg he]
      unfold accL
      rw [if_neg he]
      exact Ev.congr (fun k => if_neg he) (Ev.now _)
def LinesR (l : List S44) (w1_ s1 w2_ s2 : Int) : List S35 × Int := if w2_ < 0 then ([], 2) else linesR l w2_ s2 (l.length + 2) 0 w1_ s1
theorem acc_nil (r : List S35 × Int) (h : r.2 ≠ 0 → r.1 = []) : accL [] r = r := by
  unfold accL
  by_cases h0 : r.2 = 0
  · rw [if_pos h0, List.nil_append]; exact Prod.ext rfl h0.symm
  · rw [if_neg h0]; exact Prod.ext (h h0).symm rfl
theorem lines_err (l : List S44) (rw_ rs : Int) : ∀ (K at_ : Nat) (wd st : Int), (linesR l rw_ rs K at_ wd st).2 ≠ 0 → (linesR l rw_ rs K at_ wd st).1 = []
  | 0, _, _, _, h => rfl
  | K + 1, at_, wd, st, h => by
    simp only [linesR] at h ⊢
    by_cases he : (oneR l at_ wd st).2.2.2 = 0
    · rw [if_pos he] at h ⊢
      by_cases hm : (oneR l at_ wd st).2.2.1 = true ∨ (oneR l at_ wd st).2.1 < (l.length : Int)
      · rw [if_pos hm] at h ⊢
        by_cases hz : (linesR l rw_ rs K (oneR l at_ wd st).2.1.toNat rw_ rs).2 = 0
        · rw [if_pos hz] at h; exact absurd rfl h
        · rw [if_neg hz]
      · rw [if_neg hm] at h; exact absurd rfl h
    · rw [if_neg he]
theorem plines_ev {l : List S44} (hlen : l.length ≤ 1000) (hl : ∀ c ∈ l, okC c) {w1_ s1 w2_ s2 : Int} (h1 : in64 s1) (h2 : in64 s2) : Ev (fun k => fill_Lines.f k l w1_ s1 w2_ s2) (LinesR l w1_ s1 w2_ s2) := by
  unfold fill_Lines.f LinesR
  by_cases hw : w2_ < 0
  · rw [if_pos hw]; exact Ev.congr (fun k => if_pos hw) (Ev.now _)
  · rw [if_neg hw]
    refine Ev.congr (fun k => if_neg hw) ?_
    have := plines_l0 hlen hl (rw_ := w2_) h2 (l.length + 2) 0 w1_ s1 [] h1 (by omega) (by omega) (by simp)
    rw [acc_nil _ (lines_err l w2_ s2 _ _ _ _)] at this
    exact this
theorem lines_len (l : List S44) (rw_ rs : Int) : ∀ (K at_ : Nat) (wd st : Int), (linesR l rw_ rs K at_ wd st).1.length ≤ K
  | 0, _, _, _ => Nat.le_refl _
  | K + 1, at_, wd, st => by
    have ih := lines_len l rw_ rs K (oneR l at_ wd st).2.1.toNat rw_ rs
    simp only [linesR]
    split
    · split
      · split
        · simp only [List.length_cons]; omega
        · simp
      · simp
    · simp
end Go.Proofs.Ytagdaniakfpnfaa.PureF
namespace Go.Proofs.Ytagdaniakfpnfaa.HFillC
open Go.RowKit Go.Proofs.YtagdaniakfpnfaaW.PrintWords Go.Proofs.YtagdaniakfpnfaaW.PrintLast Go.Proofs.YtagdaniakfpnfaaW.PrintMore Go.Proofs.Ytagdaniakfpnfaa.Hand
/-- What the law stickfullaw14_FillGreedy asks of the plain functions. -/
def stickfullaw14_FillGreedy.Pure : Prop := ∀ (l0 : List (S44)) (x1 : S24) (x2 : S24), (l0.length ≤ 9223372036854775807 ∧ l0.length * 40 ≤ 140737488351232 ∧ ∀ y0 ∈ l0, W44 y0) → W24 x1 → W24 x2 → ∃ k, stickfullaw14_FillGreedy.f k l0 x1.f0 x1.f1 x2.f0 x2.f1 = some true
end Go.Proofs.Ytagdaniakfpnfaa.HFillC
namespace Go.Proofs.Ytagdaniakfpnfaa.PureF
set_option linter.unusedVariables false
open Go.RowKit Go.Proofs.YtagdaniakfpnfaaW.PrintWords Go.Proofs.YtagdaniakfpnfaaW.PrintLast Go.Proofs.YtagdaniakfpnfaaW.PrintMore Go.Proofs.Ytagdaniakfpnfaa.Hand Go.Proofs.Ytagdaniakfpnfaa.HFillC
theorem one_ok {l : List S44} {fr : Nat} {wd st : Int} (h : (oneR l fr wd st).2.2.2 = 0) : (toR l fr wd st).2 = 0 ∧ oneR l fr wd st = ((fr : Int), (toR l fr wd st).1, ((lastR l fr).2 && ((toR l fr wd st).1 == (lastR l fr).1)), 0) ∧ mayR l (fr : Int) = true := by
  unfold oneR at h ⊢
  by_cases hm : mayR l (fr : Int) = true
  · rw [if_pos hm] at h ⊢
    by_cases hw : wd < 0
    · rw [if_pos hw] at h; exact absurd h (by decide)
    · rw [if_neg hw] at h ⊢
      by_cases hz : (toR l fr wd st).2 = 0
      · rw [if_pos hz]; exact ⟨hz, rfl, hm⟩
      · rw [if_neg hz] at h; exact absurd h hz
  · rw [if_neg hm] at h; exact absurd h (by decide)
/-- Numbers that rise. -/
def ups : Int → List Int → Prop
  | _, [] => True
  | p, q :: qs => p < q ∧ ups q qs
theorem ups_weak : ∀ {p p2 : Int} {xs : List Int}, p ≤ p2 → ups p2 xs → ups p xs
  | _, _, [], _, _ => trivial
  | _, _, _ :: _, h, hu => ⟨Int.lt_of_le_of_lt h hu.1, hu.2⟩
theorem ups_filter (f : Int → Bool) : ∀ (xs : List Int) (p : Int), ups p xs → ups p (xs.filter f)
  | [], _, _ => trivial
  | q :: qs, p, h => by
    rw [List.filter_cons]
    split
    · exact ⟨h.1, ups_filter f qs q h.2⟩
    · exact ups_filter f qs p (ups_weak (Int.le_of_lt h.1) h.2)
theorem ups_snoc : ∀ (xs : List Int) (p z : Int), ups p xs → p < z → (∀ q ∈ xs, q < z) → ups p (xs ++ [z])
  | [], _, _, _, h, _ => ⟨h, trivial⟩
  | q :: qs, p, z, hu, _, hz => ⟨hu.1, ups_snoc qs q z hu.2 (hz q (List.mem_cons_self ..)) fun x hx => hz x (List.mem_cons_of_mem _ hx)⟩
theorem ups_ends (l : List S44) (fr te : Int) (is : S44 → Bool) : ∀ (n : Nat) (p p0 : Int), p0 < p → ups p0 (endsR l fr te is n p)
  | 0, _, _, _ => trivial
  | n + 1, p, p0, h => by
    have ih : ∀ p0, p0 < p + 1 → ups p0 (endsR l fr te is n (p + 1)) := fun p0 h => ups_ends l fr te is n (p + 1) p0 h
    simp only [endsR]
    split
    · split
      · split
        · exact ih p0 (by omega)
        · exact ⟨h, ih p (by omega)⟩
      · exact ih p0 (by omega)
    · trivial
theorem ups_E1 (l : List S44) {fr : Nat} (h : fr ≤ l.length) : ups (-1) (EndsR l fr).1 := by
  have hp := (last_pos l h).1
  refine ups_snoc _ (-1) _ (ups_ends l _ _ _ _ _ (-1) (by omega)) (by omega) fun q hq => ?_
  exact (ends_in l _ _ _ _ _ q hq).2
theorem ups_E2 (l : List S44) (fr : Nat) : ups (-1) (EndsR l fr).2.1 := ups_ends l _ _ _ _ _ (-1) (by omega)
theorem ups_all : ∀ {p : Int} {xs : List Int}, ups p xs → ∀ q ∈ xs, p < q
  | _, [], _, _, h => by cases h
  | p, x :: xs, hu, q, h => by
    rcases List.mem_cons.1 h with rfl | h
    · exact hu.1
    · exact Int.lt_trans hu.1 (ups_all hu.2 q h)
theorem ups_rd : ∀ {xs : List Int} {p : Int} {i j : Nat}, ups p xs → i < j → j < xs.length → rd xs (i : Int) < rd xs (j : Int)
  | [], _, _, _, _, _, h => by simp at h
  | x :: xs, p, 0, j + 1, hu, _, hj => by
    rw [rd_int (x :: xs) hj, rd_int (x :: xs) (show 0 < (x :: xs).length by simp)]
    exact ups_all hu.2 _ (List.getElem_mem (by simpa using hj))
  | x :: xs, p, i + 1, j + 1, hu, h, hj => by
    have hj2 : j < xs.length := by simpa using hj
    have ih := ups_rd (i := i) (j := j) hu.2 (by omega) hj2
    rw [rd_int (x :: xs) hj, rd_int (x :: xs) (show i + 1 < (x :: xs).length by simp only [List.length_cons]; omega)]
    rw [rd_int xs hj2, rd_int xs (show i < xs.length by omega)] at ih
    exact ih
/-- What a search tells of all that it looked at. -/
theorem tell_more (f : Int → Bool × Int) (L : List Int) : ∀ (xs : List Int) (n : Nat) (p : Int), L.drop (n + 1) = xs → n < L.length → rd L (n : Int) = p → (∀ i, i ≤ n → f (rd L (i : Int)) = (true, 0)) → (reachR f xs false p).2.2 = 0 →
    ∃ j : Nat, j < L.length ∧ reachR f xs false p = (rd L (j : Int), true, 0) ∧ (∀ i, i ≤ j → f (rd L (i : Int)) = (true, 0)) ∧ (j + 1 < L.length → f (rd L ((j + 1 : Nat) : Int)) = (false, 0))
  | [], n, p, h, hn, hp, ha, h0 => ⟨n, hn, by rw [hp]; rfl, ha, fun h2 => by
      have := List.length_drop (i := n + 1) (l := L)
      rw [h] at this
      simp only [List.length_nil] at this
      omega⟩
  | q :: qs, n, p, h, hn, hp, ha, h0 => by
    have hn1 : n + 1 < L.length := by
      rcases Nat.lt_or_ge (n + 1) L.length with h2 | h2
      · exact h2
      · rw [List.drop_of_length_le h2] at h; cases h
    rw [List.drop_eq_getElem_cons hn1] at h
    obtain ⟨h1, h2⟩ := List.cons.inj h
    have hq : rd L ((n + 1 : Nat) : Int) = q := by rw [rd_int L hn1]; exact h1
    simp only [reachR] at h0 ⊢
    by_cases hz : (f q).2 = 0
    · rw [if_pos hz] at h0 ⊢
      by_cases hg : (f q).1 = true
      · rw [if_pos hg] at h0 ⊢
        refine tell_more f L qs (n + 1) q h2 hn1 hq (fun i hi => ?_) h0
        rcases Nat.lt_or_ge n i with g | g
        · have : i = n + 1 := by omega
          rw [this, hq]
          exact Prod.ext hg hz
        · exact ha i g
      · rw [if_neg hg, if_neg (by decide)]
        refine ⟨n, hn, by rw [hp], ha, fun _ => ?_⟩
        rw [hq]
        exact Prod.ext (by simpa using hg) hz
    · rw [if_neg hz] at h0
      exact absurd h0 hz
theorem reach_tell (f : Int → Bool × Int) {L : List Int} (hL : 0 < L.length) (h0 : (reachR f L true 0).2.2 = 0) :
    (reachR f L true 0 = (rd L 0, false, 0) ∧ f (rd L 0) = (false, 0)) ∨ ∃ j : Nat, j < L.length ∧ reachR f L true 0 = (rd L (j : Int), true, 0) ∧ (∀ i : Nat, i ≤ j → f (rd L (i : Int)) = (true, 0)) ∧ (j + 1 < L.length → f (rd L ((j + 1 : Nat) : Int)) = (false, 0)) := by
  cases L with
  | nil => simp at hL
  | cons q qs =>
    have hq : rd (q :: qs) ((0 : Nat) : Int) = q := rfl
    simp only [reachR] at h0 ⊢
    by_cases hz : (f q).2 = 0
    · rw [if_pos hz] at h0 ⊢
      by_cases hg : (f q).1 = true
      · rw [if_pos hg] at h0 ⊢
        refine .inr (tell_more f (q :: qs) qs 0 q rfl hL hq (fun i hi => ?_) h0)
        have : i = 0 := by omega
        rw [this, hq]
        exact Prod.ext hg hz
      · rw [if_neg hg, if_pos trivial]
        exact .inl ⟨rfl, Prod.ext (show (f q).1 = false by simpa using hg) hz⟩
    · rw [if_neg hz] at h0
      exact absurd h0 hz
/-- What is asked of a line's end. -/
structure Greed (F : Int → Bool × Int) (E1 E2 : List Int) (T : Int) : Prop where
  ok : (F T).2 = 0
  below : ∀ k : Nat, k < E1.length → rd E1 (k : Int) < T → (F T).1 = true ∧ F (rd E1 (k : Int)) = (true, 0)
  above : ∀ k : Nat, k < E1.length → T < rd E1 (k : Int) → (k = 0 ∨ ((F T).1 = true ∧ rd E1 ((k : Int) - 1) ≤ T)) → F (rd E1 (k : Int)) ≠ (true, 0)
  other : ∀ k : Nat, k < E2.length → rd E2 (k : Int) < T → (F T).1 = true
theorem near_get {E : List Int} {z q : Int} (h : q ∈ E) (hz : q < z) : q ∈ nearL E z := by
  unfold nearL
  exact List.mem_filter.2 ⟨h, by simpa using hz⟩
theorem ups_le {xs : List Int} {p : Int} (hu : ups p xs) {k j : Nat} (hk : k < xs.length) (h : rd xs (k : Int) < rd xs (j : Int)) (hj : j < xs.length) : k < j := by
  rcases Nat.lt_or_ge k j with g | g
  · exact g
  · exfalso
    rcases Nat.lt_or_ge j k with g2 | g2
    · have := ups_rd hu g2 hk; omega
    · have : k = j := by omega
      subst this
      omega
theorem ups_first {xs : List Int} {p : Int} (hu : ups p xs) {q : Int} (h : q ∈ xs) : rd xs 0 ≤ q := by
  cases xs with
  | nil => cases h
  | cons x xs =>
    rcases List.mem_cons.1 h with rfl | h
    · exact Int.le_refl _
    · exact Int.le_of_lt (ups_all hu.2 q h)
theorem greed (F : Int → Bool × Int) {E1 E2 : List Int} (h1 : ups (-1) E1) (h2 : ups (-1) E2) (hp : 0 < E1.length) {T : Int × Int}
    (hT : T = if (reachR F E1 true 0).2.2 = 0 ∧ (reachR F E1 true 0).2.1 = false ∧ 0 < (nearL E2 (reachR F E1 true 0).1).length then ((reachR F (nearL E2 (reachR F E1 true 0).1) true 0).1, (reachR F (nearL E2 (reachR F E1 true 0).1) true 0).2.2) else ((reachR F E1 true 0).1, (reachR F E1 true 0).2.2))
    (h0 : T.2 = 0) : Greed F E1 E2 T.1 := by
  have hR : (reachR F E1 true 0).2.2 = 0 := by
    by_cases hA : (reachR F E1 true 0).2.2 = 0 ∧ (reachR F E1 true 0).2.1 = false ∧ 0 < (nearL E2 (reachR F E1 true 0).1).length
    · exact hA.1
    · rw [if_neg hA] at hT
      rw [hT] at h0
      exact h0
  rcases reach_tell F hp hR with ⟨r1, r2⟩ | ⟨j, r1, r2, r3, r4⟩
  · rw [r1] at hT
    simp only at hT
    by_cases hn : 0 < (nearL E2 (rd E1 0)).length
    · rw [if_pos ⟨trivial, trivial, hn⟩] at hT
      have hN := ups_filter (fun q => decide (q < rd E1 0)) E2 (-1) h2
      have hN' : ups (-1) (nearL E2 (rd E1 0)) := hN
      have hz : (reachR F (nearL E2 (rd E1 0)) true 0).2.2 = 0 := by rw [hT] at h0; exact h0
      have lt0 : T.1 < rd E1 0 := by
        rw [hT]
        simp only
        rcases reach_tell F hn hz with ⟨s1, _⟩ | ⟨i, s1, s2, _, _⟩
        · rw [s1]; exact (near_in _ (rd_mem (j := 0) hn)).2
        · rw [s2]; exact (near_in _ (rd_mem s1)).2
      have noB : ∀ k : Nat, k < E1.length → ¬ rd E1 (k : Int) < T.1 := fun k hk h => by
        have := ups_first h1 (rd_mem hk)
        omega
      have noA : ∀ k : Nat, k < E1.length → (k = 0 ∨ ((F T.1).1 = true ∧ rd E1 ((k : Int) - 1) ≤ T.1)) → F (rd E1 (k : Int)) ≠ (true, 0) := fun k hk h => by
        rcases h with h | ⟨_, h⟩
        · subst h
          rw [show ((0 : Nat) : Int) = 0 from rfl, r2]
          intro h; cases h
        · exfalso
          by_cases hk0 : k = 0
          · subst hk0
            rcases Int.lt_or_le (rd E1 (((0 : Nat) : Int) - 1)) (rd E1 0) with g | g
            · have e : rd E1 (((0 : Nat) : Int) - 1) = rd E1 0 := by unfold rd; rfl
              omega
            · omega
          · have e : ((k : Int) - 1) = ((k - 1 : Nat) : Int) := by omega
            rw [e] at h
            have := ups_first h1 (rd_mem (show k - 1 < E1.length by omega))
            omega
      rcases reach_tell F hn hz with ⟨s1, s2⟩ | ⟨i, s1, s2, s3, s4⟩
      · have eT : T.1 = rd (nearL E2 (rd E1 0)) 0 := by rw [hT, s1]
        refine ⟨by rw [eT, s2], fun k hk h => absurd h (noB k hk), fun k hk _ h => noA k hk h, fun k hk h => ?_⟩
        exfalso
        have hm := near_get (rd_mem hk) (Int.lt_trans h lt0)
        have := ups_first hN' hm
        omega
      · have eT : T.1 = rd (nearL E2 (rd E1 0)) (i : Int) := by rw [hT, s2]
        have ef : F T.1 = (true, 0) := by rw [eT]; exact s3 i (Nat.le_refl _)
        exact ⟨by rw [ef], fun k hk h => absurd h (noB k hk), fun k hk _ h => noA k hk h, fun k hk h => by rw [ef]⟩
    · rw [if_neg (fun h => hn h.2.2)] at hT
      have eT : T.1 = rd E1 0 := by rw [hT]
      have ef : F T.1 = (false, 0) := by rw [eT]; exact r2
      refine ⟨by rw [ef], fun k hk h => ?_, fun k hk _ h => ?_, fun k hk h => ?_⟩
      · exfalso
        have := ups_first h1 (rd_mem hk)
        omega
      · rcases h with h | ⟨h, _⟩
        · subst h
          rw [show ((0 : Nat) : Int) = 0 from rfl, r2]
          intro h; cases h
        · rw [ef] at h; cases h
      · exfalso
        rw [eT] at h
        have hm := near_get (rd_mem hk) h
        rw [List.length_pos_iff] at hn
        exact hn fun hx => by rw [hx] at hm; cases hm
  · rw [r2] at hT
    rw [if_neg (fun h => absurd (show true = false from h.2.1) (by decide))] at hT
    have eT : T.1 = rd E1 (j : Int) := by rw [hT]
    have ef : F T.1 = (true, 0) := by rw [eT]; exact r3 j (Nat.le_refl _)
    refine ⟨by rw [ef], fun k hk h => ?_, fun k hk hgt h => ?_, fun k hk h => by rw [ef]⟩
    · rw [eT] at h
      have := ups_le h1 hk h r1
      exact ⟨by rw [ef], r3 k (by omega)⟩
    · rw [eT] at hgt
      have hjk := ups_le h1 r1 hgt hk
      rcases h with h | ⟨_, h⟩
      · omega
      · have e : ((k : Int) - 1) = ((k - 1 : Nat) : Int) := by omega
        rw [e, eT] at h
        have hk1 : k - 1 = j := by
          rcases Nat.lt_or_ge j (k - 1) with g | g
          · have := ups_rd h1 g (show k - 1 < E1.length by omega)
            omega
          · omega
        have e2 : k = j + 1 := by omega
        subst e2
        rw [r4 hk]
        intro h; cases h
theorem to_greed {l : List S44} {fr : Nat} (hfr : fr ≤ l.length) {wd st : Int} (h : (toR l fr wd st).2 = 0) : Greed (fitR l fr wd st) (EndsR l fr).1 (EndsR l fr).2.1 (toR l fr wd st).1 :=
  greed (fitR l fr wd st) (ups_E1 l hfr) (ups_E2 l fr) (E1_pos l fr).1 rfl h
theorem rd35_mid (P : List S35) (c : S35) (r : List S35) : rd_T35 (P ++ c :: r) (P.length : Int) = c := by
  unfold rd_T35
  simp [List.getD]
/-- The plain function's own answer on what fits. -/
theorem fits_of {l : List S44} (hlen : l.length ≤ 80) (hl : ∀ c ∈ l, okC c) {st : Int} (hst : in64 st) (fr q : Int) : trim_Fits.f (segL l fr q) st = some (endR ((rolesZ true (segL l fr q)).map unH) (segL l fr q) st) := fits_eq (Nat.le_trans (seg_len l fr q) (by omega)) (fun c hc => hl c (seg_mem hc)) hst
section
variable {l : List S44} {xs : List S35} {i fr : Nat} {wd st w2 s2 T : Int} {Fo : Bool} {E1 E2 : List Int}
theorem greedy_l2 (hx : E2.length ≤ 1000) (hg : ∀ k : Nat, k < E2.length → rd E2 (k : Int) < T → (fitR l fr wd st T).1 = true) (hi : i ≤ 1000)
    (hgo : Ev (fun k => stickfullaw14_FillGreedy.l0 k l xs ((i + 1 : Nat) : Int) w2 s2 w2 s2) true) : ∀ (r k : Nat), k + r = E2.length → Ev (fun n => stickfullaw14_FillGreedy.l2 n l xs (i : Int) E2 (fitR l fr wd st T).1 (k : Int) w2 s2 (fr : Int) T Fo) true := by
  intro r
  induction r with
  | zero =>
    intro k hk
    refine Ev.step (fun n => ?_) hgo
    simp only [stickfullaw14_FillGreedy.l2]
    rw [if_neg (by omega), w1 (by omega)]
  | succ r ih =>
    intro k hk
    refine Ev.step (fun n => ?_) (ih (k + 1) (by omega))
    simp only [stickfullaw14_FillGreedy.l2]
    rw [if_pos (by omega), if_pos (by omega), w1 (by omega)]
    by_cases h : rd E2 (k : Int) < T
    · rw [if_pos h, if_pos (hg k (by omega) h)]
    · rw [if_neg h]
theorem greedy_l1 (hlen : l.length ≤ 80) (hl : ∀ c ∈ l, okC c) (hst : in64 st) (hx1 : E1.length ≤ 1000) (hE : ∀ k : Nat, k < E1.length → (fr : Int) ≤ rd E1 (k : Int) ∧ rd E1 (k : Int) ≤ (l.length : Int)) (hg : Greed (fitR l fr wd st) E1 E2 T) (hx2 : E2.length ≤ 1000) (hi : i ≤ 1000)
    (hgo : Ev (fun k => stickfullaw14_FillGreedy.l0 k l xs ((i + 1 : Nat) : Int) w2 s2 w2 s2) true) : ∀ (r k : Nat), k + r = E1.length → Ev (fun n => stickfullaw14_FillGreedy.l1 n l xs (i : Int) E1 E2 (fitR l fr wd st T).1 (k : Int) w2 s2 wd st (fr : Int) T Fo) true := by
  intro r
  induction r with
  | zero =>
    intro k hk
    refine Ev.step (fun n => ?_) (greedy_l2 (Fo := Fo) hx2 hg.other hi hgo E2.length 0 (by omega))
    simp only [stickfullaw14_FillGreedy.l1]
    rw [if_neg (by omega)]
    rfl
  | succ r ih =>
    intro k hk
    obtain ⟨e1, e2⟩ := hE k (by omega)
    have hk1 : k < E1.length := by omega
    have hF : fitR l fr wd st (rd E1 (k : Int)) = (decide ((endR ((rolesZ true (segL l (fr : Int) (rd E1 (k : Int)))).map unH) (segL l (fr : Int) (rd E1 (k : Int))) st).1 ≤ wd), (endR ((rolesZ true (segL l (fr : Int) (rd E1 (k : Int)))).map unH) (segL l (fr : Int) (rd E1 (k : Int))) st).2) := rfl
    have hb := hg.below k hk1
    have ha := hg.above k hk1
    rw [hF] at hb ha
    have ef := fits_of hlen hl hst (fr : Int) (rd E1 (k : Int))
    generalize endR ((rolesZ true (segL l (fr : Int) (rd E1 (k : Int)))).map unH) (segL l (fr : Int) (rd E1 (k : Int))) st = R at hb ha ef
    have hnext := ih (k + 1) (by omega)
    have ej : ∀ n, stickfullaw14_FillGreedy.j2 (n + 1) l xs (i : Int) E1 E2 (fitR l fr wd st T).1 (k : Int) R.1 R.2 false w2 s2 wd st (fr : Int) T Fo = stickfullaw14_FillGreedy.l1 n l xs (i : Int) E1 E2 (fitR l fr wd st T).1 ((k + 1 : Nat) : Int) w2 s2 wd st (fr : Int) T Fo := by
      intro n
      simp only [stickfullaw14_FillGreedy.j2]
      rw [if_neg (by decide), if_pos (by omega), if_pos (by omega), w1 (by omega)]
      by_cases hgt : rd E1 (k : Int) > T
      · rw [if_pos hgt]
        have fall : (k = 0 ∨ ((fitR l fr wd st T).1 = true ∧ rd E1 ((k : Int) - 1) ≤ T)) → ∀ (A B : Option Bool), (if R.2 = 0 then (if R.1 ≤ wd then A else B) else B) = B := by
          intro hc A B
          have hne := ha hgt hc
          by_cases hz : R.2 = 0
          · rw [if_pos hz]
            by_cases hw : R.1 ≤ wd
            · exact absurd (Prod.ext (decide_eq_true hw) hz) hne
            · rw [if_neg hw]
          · rw [if_neg hz]
        by_cases h0 : (k : Int) = 0
        · rw [if_pos h0, fall (.inl (by omega))]
        · rw [if_neg h0]
          by_cases hfit : (fitR l fr wd st T).1 = true
          · rw [if_pos hfit, ws (by omega) (by omega), if_pos (by omega), if_pos (by omega)]
            by_cases hp : rd E1 ((k : Int) - 1) ≤ T
            · rw [if_pos hp, fall (.inr ⟨hfit, hp⟩)]
            · rw [if_neg hp]
          · rw [if_neg hfit]
      · rw [if_neg hgt]
    have hj : Ev (fun n => stickfullaw14_FillGreedy.j2 n l xs (i : Int) E1 E2 (fitR l fr wd st T).1 (k : Int) R.1 R.2 false w2 s2 wd st (fr : Int) T Fo) true := Ev.step ej hnext
    refine Ev.step (fun n => ?_) hj
    have ef2 : trim_Fits.f ((l.take (rd E1 (k : Int)).toNat).drop (fr : Int).toNat) st = some R := ef
    simp only [stickfullaw14_FillGreedy.l1]
    rw [if_pos (by omega), if_pos (by omega), if_pos (by omega), if_pos (by omega), if_pos (by omega), ef2, Option.bind_some]
    by_cases hlt : rd E1 (k : Int) < T
    · obtain ⟨b1, b2⟩ := hb hlt
      have c1 : R.1 ≤ wd := by have := congrArg Prod.fst b2; simpa using this
      have c2 : R.2 = 0 := congrArg Prod.snd b2
      rw [if_pos hlt, if_pos b1, if_pos c2, decide_eq_false (show ¬ R.1 > wd by omega)]
    · rw [if_neg hlt]
end
theorem greedy_l0 {l : List S44} (hlen : l.length ≤ 80) (hl : ∀ c ∈ l, okC c) {rw_ rs : Int} (hrs : in64 rs) : ∀ (K at_ : Nat) (wd st : Int) (P : List S35), in64 st → at_ ≤ l.length → l.length < at_ + K → P.length + K ≤ 200 → (linesR l rw_ rs K at_ wd st).2 = 0 →
    Ev (fun k => stickfullaw14_FillGreedy.l0 k l (P ++ (linesR l rw_ rs K at_ wd st).1) (P.length : Int) rw_ rs wd st) true
  | 0, at_, wd, st, P, _, h1, h2, _, _ => by omega
  | K + 1, at_, wd, st, P, hst, h1, h2, h3, h0 => by
    simp only [linesR] at h0 ⊢
    by_cases he : (oneR l at_ wd st).2.2.2 = 0
    · obtain ⟨o1, o2, o3, o4, o5⟩ := one_in h1 he
      obtain ⟨q1, q2, q3⟩ := one_ok he
      have hgr := to_greed h1 q1
      have t1 : (oneR l at_ wd st).2.1 = (toR l at_ wd st).1 := by rw [q2]
      rw [← t1] at hgr
      rw [if_pos he] at h0 ⊢
      have hat : ((oneR l at_ wd st).2.1.toNat : Int) = (oneR l at_ wd st).2.1 := by omega
      have hE1 := E1_pos l at_
      have hE2 := E2_len l at_
      -- one line of some lines
      have step : ∀ xs : List S35, P.length < xs.length → xs.length ≤ 1000 → rd_T35 xs (P.length : Int) = (⟨(oneR l at_ wd st).1, (oneR l at_ wd st).2.1, (oneR l at_ wd st).2.2.1⟩ : S35) → Ev (fun k => stickfullaw14_FillGreedy.l0 k l xs ((P.length + 1 : Nat) : Int) rw_ rs rw_ rs) true → Ev (fun k => stickfullaw14_FillGreedy.l0 k l xs (P.length : Int) rw_ rs wd st) true := by
        intro xs hx1 hx2 hx3 hgo
        have ef := fits_of hlen hl hst (at_ : Int) (oneR l at_ wd st).2.1
        have ef2 : trim_Fits.f ((l.take (oneR l at_ wd st).2.1.toNat).drop (at_ : Int).toNat) st = some (endR ((rolesZ true (segL l (at_ : Int) (oneR l at_ wd st).2.1)).map unH) (segL l (at_ : Int) (oneR l at_ wd st).2.1) st) := ef
        have e : ∀ k, stickfullaw14_FillGreedy.l0 (k + 1) l xs (P.length : Int) rw_ rs wd st = (fill_Ends.f k l (at_ : Int)).bind fun bt286 => (if (endR ((rolesZ true (segL l (at_ : Int) (oneR l at_ wd st).2.1)).map unH) (segL l (at_ : Int) (oneR l at_ wd st).2.1) st).2 = 0 then stickfullaw14_FillGreedy.l1 k l xs (P.length : Int) bt286.1 bt286.2.1 (decide ((endR ((rolesZ true (segL l (at_ : Int) (oneR l at_ wd st).2.1)).map unH) (segL l (at_ : Int) (oneR l at_ wd st).2.1) st).1 ≤ wd)) 0 rw_ rs wd st (at_ : Int) (oneR l at_ wd st).2.1 (oneR l at_ wd st).2.2.1 else some false) := by
          intro k
          simp only [stickfullaw14_FillGreedy.l0]
          rw [if_pos (by omega), if_pos (by omega), hx3]
          simp only
          rw [o1]
          congr 1
          funext b
          rw [if_pos (by omega), if_pos o2, if_pos o3, ef2, Option.bind_some]
        refine Ev.step e (Ev.bind (pends_ev l (by omega) at_ h1) ?_)
        rw [if_pos q3]
        have hok : (endR ((rolesZ true (segL l (at_ : Int) (oneR l at_ wd st).2.1)).map unH) (segL l (at_ : Int) (oneR l at_ wd st).2.1) st).2 = 0 := hgr.ok
        refine Ev.congr (fun k => if_pos hok) ?_
        exact greedy_l1 (i := P.length) hlen hl hst (by omega) (fun k hk => by have := E1_in l h1 _ (rd_mem hk); exact ⟨this.1, this.2.1⟩) hgr (by omega) (by omega) hgo (EndsR l at_).1.length 0 (by omega)
      by_cases hm : (oneR l at_ wd st).2.2.1 = true ∨ (oneR l at_ wd st).2.1 < (l.length : Int)
      · rw [if_pos hm] at h0 ⊢
        have hlt : at_ < l.length := by
          rcases Nat.lt_or_ge at_ l.length with h | h
          · exact h
          · exfalso
            have := o5 (by omega)
            rcases hm with hm | hm
            · rw [this] at hm; cases hm
            · omega
        have hgo := o4 hlt
        by_cases hz : (linesR l rw_ rs K (oneR l at_ wd st).2.1.toNat rw_ rs).2 = 0
        · rw [if_pos hz]
          have ih := greedy_l0 (rw_ := rw_) hlen hl hrs K (oneR l at_ wd st).2.1.toNat rw_ rs (P ++ [(⟨(oneR l at_ wd st).1, (oneR l at_ wd st).2.1, (oneR l at_ wd st).2.2.1⟩ : S35)]) hrs (by omega) (by omega) (by simp only [List.length_append, List.length_cons, List.length_nil]; omega) hz
          rw [List.append_assoc, List.singleton_append, List.length_append, List.length_singleton] at ih
          have hll := lines_len l rw_ rs K (oneR l at_ wd st).2.1.toNat rw_ rs
          exact step _ (by simp only [List.length_append, List.length_cons]; omega) (by simp only [List.length_append, List.length_cons]; omega) (rd35_mid _ _ _) ih
        · rw [if_neg hz] at h0
          exact absurd h0 hz
      · rw [if_neg hm]
        refine step _ (by simp only [List.length_append, List.length_cons]; omega) (by simp only [List.length_append, List.length_cons, List.length_nil]; omega) (rd35_mid _ _ _) ?_
        refine Ev.step (fun k => ?_) head_ev2
        simp only [stickfullaw14_FillGreedy.l0]
        rw [if_neg (by simp)]
    · rw [if_neg he] at h0
      exact absurd h0 he
theorem FillGreedy : stickfullaw14_FillGreedy.Pure := by
  intro l x1 x2 hl h1 h2
  refine Ev.rounds (r := true) ?_
  show Ev (fun k => stickfullaw14_FillGreedy.f k l x1.f0 x1.f1 x2.f0 x2.f1) true
  have hok : ∀ d ∈ l, okC d := fun d hd => okC_of (hl.2.2 d hd)
  unfold stickfullaw14_FillGreedy.f
  by_cases hc : (l.length : Int) > 80
  · exact Ev.congr (fun k => if_pos hc) head_ev2
  · refine Ev.congr (fun k => if_neg hc) ?_
    refine Ev.bind (plines_ev (by omega) hok (i64_of h1.2) (i64_of h2.2)) ?_
    unfold LinesR
    by_cases hw : x2.f0 < 0
    · rw [if_pos hw]
      exact Ev.congr (fun k => if_neg (by decide)) head_ev2
    · rw [if_neg hw]
      by_cases hz : (linesR l x2.f0 x2.f1 (l.length + 2) 0 x1.f0 x1.f1).2 = 0
      · refine Ev.congr (fun k => if_pos hz) ?_
        exact greedy_l0 (by omega) hok (i64_of h2.2) (l.length + 2) 0 x1.f0 x1.f1 [] (i64_of h1.2) (by omega) (by omega) (by simp only [List.length_nil]; omega) hz
      · exact Ev.congr (fun k => if_neg hz) head_ev2
end Go.Proofs.Ytagdaniakfpnfaa.PureF
namespace Go.Proofs.Ytagdaniakfpnfaa.Pure
theorem FillGreedy : Go.Proofs.Ytagdaniakfpnfaa.HFillC.stickfullaw14_FillGreedy.Pure := Go.Proofs.Ytagdaniakfpnfaa.PureF.FillGreedy
end Go.Proofs.Ytagdaniakfpnfaa.Pure
