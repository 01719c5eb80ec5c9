import Derived.Test.YtahpkfmgeifenaaHStylex8
import Derived.Test.YtahpkfmgeifenaaHStylex9
import Derived.Test.YtahpkfmgeifenaaHand2
namespace Go.Proofs.Ytahpkfmgeifenaa.Pure
open Go.RowKit Go.Proofs.YtahpkfmgeifenaaW.PrintWords Go.Proofs.YtahpkfmgeifenaaW.PrintLast Go.Proofs.YtahpkfmgeifenaaW.PrintMore Go.Proofs.Ytahpkfmgeifenaa.Hand Go.Proofs.Ytahpkfmgeifenaa.HStyle
theorem w64 {x : Int} (h1 : -9223372036854775808 ≤ x) (h2 : x ≤ 9223372036854775807) : wrap64 x = x := by unfold wrap64; omega
/-- What a style must be. -/
def okS (s : S23) : Prop := s.f0 ≤ 5 ∧ s.f1 ≤ 2 ∧ s.f2 ≤ 1 ∧ s.f3 ≤ 3 ∧ 0 ≤ s.f4 ∧ s.f4 ≤ 64 ∧ 0 ≤ s.f5 ∧ s.f5 < 64 ∧ 0 ≤ s.f6 ∧ s.f6 ≤ 1073741824 ∧ s.f7 ≤ 2 ∧ 0 ≤ s.f8 ∧ s.f8 ≤ 1073741824
theorem mayAll_iff (s : S23) : mayAll s = true ↔ okS s := by
  unfold mayAll okS
  simp only [mayP, unitsP, Bool.and_eq_true, decide_eq_true_eq]
  constructor
  · intro h; omega
  · intro h; omega
theorem refCheck (s : S23) : stickfulref06_Check.f s.f0 s.f1 s.f2 s.f3 s.f4 s.f5 s.f6 s.f7 s.f8 = some (if mayAll s = true then 0 else 60) := by
  unfold stickfulref06_Check.f
  by_cases h : okS s
  · rw [if_pos ((mayAll_iff s).2 h)]
    unfold okS at h
    rw [if_neg (by omega), if_neg (by omega), if_neg (by omega), if_neg (by omega), if_neg (by omega), if_neg (by omega), if_neg (by omega), if_neg (by omega), if_neg (by omega), if_neg (by omega), if_neg (by omega), if_neg (by omega), if_neg (by omega)]
  · rw [if_neg (fun hc => h ((mayAll_iff s).1 hc))]
    unfold okS at h
    by_cases c0 : s.f0 > 5
    · rw [if_pos c0]
    rw [if_neg c0]
    by_cases c1 : s.f1 > 2
    · rw [if_pos c1]
    rw [if_neg c1]
    by_cases c2 : s.f2 > 1
    · rw [if_pos c2]
    rw [if_neg c2]
    by_cases c3 : s.f3 > 3
    · rw [if_pos c3]
    rw [if_neg c3]
    by_cases c4 : s.f7 > 2
    · rw [if_pos c4]
    rw [if_neg c4]
    by_cases c5 : s.f4 < 0
    · rw [if_pos c5]
    rw [if_neg c5]
    by_cases c6 : s.f4 > 64
    · rw [if_pos c6]
    rw [if_neg c6]
    by_cases c7 : s.f5 < 0
    · rw [if_pos c7]
    rw [if_neg c7]
    by_cases c8 : s.f5 > 63
    · rw [if_pos c8]
    rw [if_neg c8]
    by_cases c9 : s.f6 < 0
    · rw [if_pos c9]
    rw [if_neg c9]
    by_cases c10 : s.f6 > 1073741824
    · rw [if_pos c10]
    rw [if_neg c10]
    by_cases c11 : s.f8 < 0
    · rw [if_pos c11]
    rw [if_neg c11]
    by_cases c12 : s.f8 > 1073741824
    · rw [if_pos c12]
    rw [if_neg c12]
    exfalso
    apply h
    omega
theorem bits_and16 (a b : Nat) (ha : a < 65536) (hb : b < 65536) : Go.bits .and .u16 (a : Int) (b : Int) = ((a &&& b : Nat) : Int) := by
  have hx : a &&& b < 2 ^ 16 := Nat.and_lt_two_pow _ (by omega)
  have h1 : (BitVec.ofInt 16 (a : Int)).toNat = a := by
    rw [BitVec.ofInt_natCast, BitVec.toNat_ofNat]; exact Nat.mod_eq_of_lt (by omega)
  have h2 : (BitVec.ofInt 16 (b : Int)).toNat = b := by
    rw [BitVec.ofInt_natCast, BitVec.toNat_ofNat]; exact Nat.mod_eq_of_lt (by omega)
  show IntKind.u16.wrap ((BitVec.ofInt 16 (a : Int) &&& BitVec.ofInt 16 (b : Int)).toNat : Int) = _
  rw [BitVec.toNat_and, h1, h2, IntKind.wrap_u16]
  omega
theorem bits_or16 (a b : Nat) (ha : a < 65536) (hb : b < 65536) : Go.bits .or .u16 (a : Int) (b : Int) = ((a ||| b : Nat) : Int) := by
  have hx : a ||| b < 2 ^ 16 := Nat.or_lt_two_pow (by omega) (by omega)
  have h1 : (BitVec.ofInt 16 (a : Int)).toNat = a := by
    rw [BitVec.ofInt_natCast, BitVec.toNat_ofNat]; exact Nat.mod_eq_of_lt (by omega)
  have h2 : (BitVec.ofInt 16 (b : Int)).toNat = b := by
    rw [BitVec.ofInt_natCast, BitVec.toNat_ofNat]; exact Nat.mod_eq_of_lt (by omega)
  show IntKind.u16.wrap ((BitVec.ofInt 16 (a : Int) ||| BitVec.ofInt 16 (b : Int)).toNat : Int) = _
  rw [BitVec.toNat_or, h1, h2, IntKind.wrap_u16]
  omega
theorem two_pow_lt {j : Nat} (hj : j < 8) : 2 ^ j < 65536 := Nat.lt_of_le_of_lt (Nat.pow_le_pow_right (by decide) (show j ≤ 7 by omega)) (by decide)
/-- A saying says part j just if its bit j is set. -/
theorem hasP_iff {n j : Nat} (hn : n < 65536) (hj : j < 8) : hasP (n : Int) j ↔ n.testBit j = true := by
  unfold hasP
  rw [bits_and16 n (2 ^ j) hn (two_pow_lt hj)]
  constructor
  · intro h
    cases hb : n.testBit j with
    | true => rfl
    | false =>
      exfalso
      apply h
      have : n &&& 2 ^ j = 0 := Nat.eq_of_testBit_eq fun i => by
        rw [Nat.testBit_and, Nat.testBit_two_pow]
        by_cases hi : j = i
        · subst hi
          simp [hb]
        · simp [hi]
      rw [this]
      rfl
  · intro hb h
    have h2 : n &&& 2 ^ j = 0 := by omega
    have h3 : (n &&& 2 ^ j).testBit j = true := by rw [Nat.testBit_and, hb, Nat.testBit_two_pow]; simp
    rw [h2] at h3
    simp at h3
theorem u64_small {j : Nat} (hj : j < 16) : IntKind.u64.wrap (j : Int) = (j : Int) := by rw [IntKind.wrap_u64]; omega
theorem says_eq {d : Int} (h0 : 0 ≤ d) (h1 : d < 65536) (b : S23) {j : Nat} (hj : j < 8) : stickfulref06_Says.f d b.f0 b.f1 b.f2 b.f3 b.f4 b.f5 b.f6 b.f7 b.f8 (j : Int) = some (decide (hasP d j)) := by
  obtain ⟨n, rfl⟩ := Int.eq_ofNat_of_zero_le h0
  have hn : n < 65536 := by omega
  unfold stickfulref06_Says.f
  rw [u64_small (by omega), if_pos (by omega)]
  unfold shr
  have e : min ((j : Int)).toNat IntKind.u16.bits = j := by show min ((j : Int)).toNat 16 = j; omega
  rw [e]
  have e2 : ((n : Int) / 2 ^ j) = ((n / 2 ^ j : Nat) : Int) := by simp
  have h3 : n / 2 ^ j ≤ n := Nat.div_le_self _ _
  rw [e2, show (1 : Int) = ((1 : Nat) : Int) from rfl, bits_and16 _ _ (by omega) (by decide), Nat.and_one_is_mod]
  congr 1
  by_cases hb : n.testBit j = true
  · rw [decide_eq_true ((hasP_iff hn hj).2 hb)]
    rw [Nat.testBit_eq_decide_div_mod_eq] at hb
    have := of_decide_eq_true hb
    rw [this]
    rfl
  · rw [decide_eq_false (fun hc => hb ((hasP_iff hn hj).1 hc))]
    rw [Nat.testBit_eq_decide_div_mod_eq] at hb
    have h2 : n / 2 ^ j % 2 = 0 := by
      have h4 : ¬ n / 2 ^ j % 2 = 1 := fun hc => hb (decide_eq_true hc)
      omega
    rw [h2]
    rfl
theorem one_eq (s b : S23) {j : Nat} (hj : j < 8) : stickfulref06_One.f s.f0 s.f1 s.f2 s.f3 s.f4 s.f5 s.f6 s.f7 s.f8 b.f0 b.f1 b.f2 b.f3 b.f4 b.f5 b.f6 b.f7 b.f8 (j : Int) = some (oneP s b j).tup := by
  have hk8 : j = 0 ∨ j = 1 ∨ j = 2 ∨ j = 3 ∨ j = 4 ∨ j = 5 ∨ j = 6 ∨ j = 7 := by omega
  rcases hk8 with rfl | rfl | rfl | rfl | rfl | rfl | rfl | rfl <;> rfl

theorem over_l0 (s : S23) {d : Int} (h0 : 0 ≤ d) (h1 : d < 65536) (b : S23) : ∀ (r j : Nat), j + r = 8 → Ev (fun k => stickfulref06_Over.l0 k (j : Int) (overN s d b j).f0 (overN s d b j).f1 (overN s d b j).f2 (overN s d b j).f3 (overN s d b j).f4 (overN s d b j).f5 (overN s d b j).f6 (overN s d b j).f7 (overN s d b j).f8 d b.f0 b.f1 b.f2 b.f3 b.f4 b.f5 b.f6 b.f7 b.f8) (overN s d b 8).tup := by
  intro r
  induction r with
  | zero =>
    intro j hj
    obtain rfl : j = 8 := by omega
    refine Ev.step (f := fun _ => some (overN s d b 8).tup) (fun k => ?_) (Ev.now _)
    simp only [stickfulref06_Over.l0]
    rw [if_neg (by omega)]
    rfl
  | succ r ih =>
    intro j hj
    have hj8 : j < 8 := by omega
    refine Ev.step (fun k => ?_) (ih (j + 1) (by omega))
    simp only [stickfulref06_Over.l0]
    rw [if_pos (by omega), says_eq h0 h1 b hj8, w64 (x := (j : Int) + 1) (by omega) (by omega)]
    simp only [Option.bind_some]
    by_cases hs : hasP d j
    · rw [if_pos (decide_eq_true hs), one_eq _ b hj8, show overN s d b (j + 1) = oneP (overN s d b j) b j from if_pos hs]
      rfl
    · rw [if_neg (by simpa using hs), show overN s d b (j + 1) = overN s d b j from if_neg hs]
      rfl
theorem refOver (s : S23) {d : Int} (h0 : 0 ≤ d) (h1 : d < 65536) (b : S23) : Ev (fun k => stickfulref06_Over.f k s.f0 s.f1 s.f2 s.f3 s.f4 s.f5 s.f6 s.f7 s.f8 d b.f0 b.f1 b.f2 b.f3 b.f4 b.f5 b.f6 b.f7 b.f8) (overN s d b 8).tup :=
  over_l0 s h0 h1 b 8 0 (by omega)
/-- What CheckDecl tells. -/
def declE (d : Int) (b : S23) : Int := if 255 < d then 60 else if sameP (overN z23 d b 8) b = true then (if mayAll b = true then 0 else 60) else 60
theorem decl_eq (d : Int) (b : S23) : style_CheckDecl.f d b.f0 b.f1 b.f2 b.f3 b.f4 b.f5 b.f6 b.f7 b.f8 = some (declE d b) := rfl
theorem refDecl {d : Int} (h0 : 0 ≤ d) (h1 : d < 65536) (b : S23) : Ev (fun k => stickfulref06_CheckDecl.f k d b.f0 b.f1 b.f2 b.f3 b.f4 b.f5 b.f6 b.f7 b.f8) (declE d b) := by
  by_cases h : 255 < d
  · refine Ev.congr (fun k => ?_) (by rw [declE, if_pos h]; exact Ev.now _)
    unfold stickfulref06_CheckDecl.f
    rw [if_pos h]
  · refine Ev.congr (f := fun k => (stickfulref06_Over.f k z23.f0 z23.f1 z23.f2 z23.f3 z23.f4 z23.f5 z23.f6 z23.f7 z23.f8 d b.f0 b.f1 b.f2 b.f3 b.f4 b.f5 b.f6 b.f7 b.f8).bind fun bt => if (!(bt.1 == b.f0) || (!(bt.2.1 == b.f1) || (!(bt.2.2.1 == b.f2) || (!(bt.2.2.2.1 == b.f3) || (!(bt.2.2.2.2.1 == b.f4) || (!(bt.2.2.2.2.2.1 == b.f5) || (!(bt.2.2.2.2.2.2.1 == b.f6) || (!(bt.2.2.2.2.2.2.2.1 == b.f7) || (!(bt.2.2.2.2.2.2.2.2 == b.f8)))))))))) = true then some 60 else ((stickfulref06_Check.f b.f0 b.f1 b.f2 b.f3 b.f4 b.f5 b.f6 b.f7 b.f8).bind fun t => some t)) (fun k => ?_) (Ev.bind (refOver z23 h0 h1 b) ?_)
    · unfold stickfulref06_CheckDecl.f
      rw [if_neg h]
      rfl
    · refine Ev.congr (fun k => ?_) (Ev.now _)
      rw [declE, if_neg h, refCheck]
      generalize overN z23 d b 8 = z
      have hdm : (!(z.f0 == b.f0) || (!(z.f1 == b.f1) || (!(z.f2 == b.f2) || (!(z.f3 == b.f3) || (!(z.f4 == b.f4) || (!(z.f5 == b.f5) || (!(z.f6 == b.f6) || (!(z.f7 == b.f7) || (!(z.f8 == b.f8)))))))))) = !(sameP z b) := by simp only [sameP, Bool.not_and]
      simp only [S23.tup, hdm, Option.bind_some]
      cases sameP z b <;> simp

/-- What Resolve tells. -/
def resX (s : S23) (d : Int) (b : S23) : Int × Int × Int × Int × Int × Int × Int × Int × Int × Int :=
  if mayAll s = true ∧ declE d b = 0 then ((overN s d b 8).f0, (overN s d b 8).f1, (overN s d b 8).f2, (overN s d b 8).f3, (overN s d b 8).f4, (overN s d b 8).f5, (overN s d b 8).f6, (overN s d b 8).f7, (overN s d b 8).f8, 0) else (0, 0, 0, 0, 0, 0, 0, 0, 0, 60)
theorem resolve_eq (s : S23) (d : Int) (b : S23) : style_Resolve.f s.f0 s.f1 s.f2 s.f3 s.f4 s.f5 s.f6 s.f7 s.f8 d b.f0 b.f1 b.f2 b.f3 b.f4 b.f5 b.f6 b.f7 b.f8 = some (resX s d b) := by
  have e : style_Check.f s.f0 s.f1 s.f2 s.f3 s.f4 s.f5 s.f6 s.f7 s.f8 = some (if mayAll s = true then 0 else 60) := rfl
  unfold style_Resolve.f resX
  rw [e, decl_eq]
  simp only [Option.bind_some]
  by_cases h : mayAll s = true
  · rw [if_pos h, if_pos rfl]
    by_cases h2 : declE d b = 0
    · rw [if_pos h2, if_pos ⟨h, h2⟩]
      rfl
    · rw [if_neg h2, if_neg (fun hc => h2 hc.2)]
  · rw [if_neg h, if_neg (by decide), if_neg (fun hc => h hc.1)]
theorem refResolve (s : S23) {d : Int} (h0 : 0 ≤ d) (h1 : d < 65536) (b : S23) : Ev (fun k => stickfulref06_Resolve.f k s.f0 s.f1 s.f2 s.f3 s.f4 s.f5 s.f6 s.f7 s.f8 d b.f0 b.f1 b.f2 b.f3 b.f4 b.f5 b.f6 b.f7 b.f8) (resX s d b) := by
  unfold stickfulref06_Resolve.f resX
  rw [refCheck]
  simp only [Option.bind_some]
  by_cases h : mayAll s = true
  · rw [if_pos h]
    refine Ev.congr (fun k => if_pos rfl) (Ev.bind (refDecl h0 h1 b) ?_)
    by_cases h2 : declE d b = 0
    · rw [if_pos ⟨h, h2⟩]
      refine Ev.congr (fun k => if_pos h2) (Ev.bind (refOver s h0 h1 b) (Ev.now _))
    · rw [if_neg (fun hc => h2 hc.2)]
      exact Ev.congr (fun k => if_neg h2) (Ev.now _)
  · rw [if_neg h, if_neg (fun hc => h hc.1)]
    exact Ev.congr (fun k => if_neg (by decide)) (Ev.now _)

/-- What Merge tells. -/
def merX (da : Int) (a : S23) (db : Int) (b : S23) : Int × Int × Int × Int × Int × Int × Int × Int × Int × Int × Int :=
  if declE da a = 0 ∧ declE db b = 0 then (Go.bits .or .u16 da db, (overN a db b 8).f0, (overN a db b 8).f1, (overN a db b 8).f2, (overN a db b 8).f3, (overN a db b 8).f4, (overN a db b 8).f5, (overN a db b 8).f6, (overN a db b 8).f7, (overN a db b 8).f8, 0) else (0, 0, 0, 0, 0, 0, 0, 0, 0, 0, 60)
theorem merge_eq (da : Int) (a : S23) (db : Int) (b : S23) : style_Merge.f da a.f0 a.f1 a.f2 a.f3 a.f4 a.f5 a.f6 a.f7 a.f8 db b.f0 b.f1 b.f2 b.f3 b.f4 b.f5 b.f6 b.f7 b.f8 = some (merX da a db b) := by
  unfold style_Merge.f merX
  rw [decl_eq, decl_eq]
  simp only [Option.bind_some]
  by_cases h : declE da a = 0
  · rw [if_pos h]
    by_cases h2 : declE db b = 0
    · rw [if_pos h2, if_pos ⟨h, h2⟩]
      rfl
    · rw [if_neg h2, if_neg (fun hc => h2 hc.2)]
  · rw [if_neg h, if_neg (fun hc => h hc.1)]
/-- The document's merging, part by part. -/
def mS (da : Int) (a : S23) (db : Int) (b : S23) : Nat → S23
  | 0 => z23
  | j + 1 => if hasP db j then oneP (mS da a db b j) b j else if hasP da j then oneP (mS da a db b j) a j else mS da a db b j
def mB (n m : Nat) : Nat → Nat
  | 0 => 0
  | j + 1 => if m.testBit j = true ∨ n.testBit j = true then mB n m j ||| 2 ^ j else mB n m j
theorem mB_lt (n m : Nat) : ∀ j, mB n m j < 2 ^ j
  | 0 => by simp [mB]
  | j + 1 => by
    have ih := mB_lt n m j
    have h : 2 ^ j < 2 ^ (j + 1) := Nat.pow_lt_pow_right (by decide) (by omega)
    unfold mB
    split
    · exact Nat.or_lt_two_pow (by omega) h
    · omega
theorem mB_bit (n m i : Nat) : ∀ j, (mB n m j).testBit i = (decide (i < j) && (n.testBit i || m.testBit i))
  | 0 => by simp [mB]
  | j + 1 => by
    have ih := mB_bit n m i j
    unfold mB
    by_cases h : m.testBit j = true ∨ n.testBit j = true
    · rw [if_pos h, Nat.testBit_or, ih, Nat.testBit_two_pow]
      by_cases hi : i = j
      · subst hi
        rcases h with h | h <;> simp [h]
      · have h1 : decide (i < j + 1) = decide (i < j) := by simp; omega
        rw [h1]
        simp [show ¬ j = i by omega]
    · rw [if_neg h, ih]
      by_cases hi : i = j
      · subst hi
        have h2 : m.testBit i = false := by simpa using fun hc => h (.inl hc)
        have h3 : n.testBit i = false := by simpa using fun hc => h (.inr hc)
        simp [h2, h3]
      · have h1 : decide (i < j + 1) = decide (i < j) := by simp; omega
        rw [h1]
theorem mB_all {n m : Nat} (hn : n < 256) (hm : m < 256) : mB n m 8 = n ||| m := by
  refine Nat.eq_of_testBit_eq fun i => ?_
  rw [mB_bit, Nat.testBit_or]
  by_cases hi : i < 8
  · simp [hi]
  · have h : 256 ≤ 2 ^ i := Nat.le_trans (show 256 ≤ 2 ^ 8 by decide) (Nat.pow_le_pow_right (by decide) (by omega))
    rw [Nat.testBit_lt_two_pow (show n < 2 ^ i by omega), Nat.testBit_lt_two_pow (show m < 2 ^ i by omega)]
    simp
end Go.Proofs.Ytahpkfmgeifenaa.Pure
