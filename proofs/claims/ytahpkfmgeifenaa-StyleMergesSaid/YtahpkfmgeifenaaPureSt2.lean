import Derived.Test.YtahpkfmgeifenaaPureSt
import Derived.Test.YtahpkfmgeifenaaHStylex10
namespace Go.Proofs.Ytahpkfmgeifenaa.Pure
open Go.RowKit Go.Proofs.YtahpkfmgeifenaaW.PrintWords Go.Proofs.YtahpkfmgeifenaaW.PrintLast Go.Proofs.YtahpkfmgeifenaaW.PrintMore Go.Proofs.Ytahpkfmgeifenaa.Hand Go.Proofs.Ytahpkfmgeifenaa.HStyle
theorem or_step {x j : Nat} (hx : x < 2 ^ j) (hj : j < 8) : Go.bits .or .u16 (x : Int) (shl .u16 1 (IntKind.u64.wrap (j : Int))) = ((x ||| 2 ^ j : Nat) : Int) := by
  have h2 : 2 ^ j < 65536 := two_pow_lt hj
  have e : shl .u16 1 (IntKind.u64.wrap (j : Int)) = ((2 ^ j : Nat) : Int) := by
    rw [u64_small (by omega)]
    unfold shl
    have e1 : min ((j : Int)).toNat IntKind.u16.bits = j := by show min ((j : Int)).toNat 16 = j; omega
    rw [e1, IntKind.wrap_u16, Int.one_mul]
    have e2 : ((2 : Int) ^ j) = ((2 ^ j : Nat) : Int) := by simp
    rw [e2]
    omega
  rw [e]
  exact bits_or16 _ _ (by omega) h2
theorem merge_l0 {n m : Nat} (hn : n < 65536) (hm : m < 65536) (a b : S23) : ∀ (r j : Nat), j + r = 8 →
    Ev (fun k => stickfulref06_Merge.l0 k (j : Int) (n : Int) a.f0 a.f1 a.f2 a.f3 a.f4 a.f5 a.f6 a.f7 a.f8 (m : Int) b.f0 b.f1 b.f2 b.f3 b.f4 b.f5 b.f6 b.f7 b.f8 ((mB n m j : Nat) : Int) (mS n a m b j).f0 (mS n a m b j).f1 (mS n a m b j).f2 (mS n a m b j).f3 (mS n a m b j).f4 (mS n a m b j).f5 (mS n a m b j).f6 (mS n a m b j).f7 (mS n a m b j).f8) (((mB n m 8 : Nat) : Int), (mS n a m b 8).f0, (mS n a m b 8).f1, (mS n a m b 8).f2, (mS n a m b 8).f3, (mS n a m b 8).f4, (mS n a m b 8).f5, (mS n a m b 8).f6, (mS n a m b 8).f7, (mS n a m b 8).f8, 0) := by
  intro r
  induction r with
  | zero =>
    intro j hj
    obtain rfl : j = 8 := by omega
    refine Ev.step (f := fun _ => some (((mB n m 8 : Nat) : Int), (mS n a m b 8).f0, (mS n a m b 8).f1, (mS n a m b 8).f2, (mS n a m b 8).f3, (mS n a m b 8).f4, (mS n a m b 8).f5, (mS n a m b 8).f6, (mS n a m b 8).f7, (mS n a m b 8).f8, 0)) (fun k => ?_) (Ev.now _)
    simp only [stickfulref06_Merge.l0]
    rw [if_neg (by omega)]
  | succ r ih =>
    intro j hj
    have hj8 : j < 8 := by omega
    have hw : 0 ≤ IntKind.u64.wrap (j : Int) := by rw [u64_small (by omega)]; omega
    have hor := or_step (mB_lt n m j) hj8
    have e9 : wrap64 ((j : Int) + 1) = ((j + 1 : Nat) : Int) := by rw [w64 (by omega) (by omega)]; rfl
    refine Ev.step (fun k => ?_) (ih (j + 1) (by omega))
    simp only [stickfulref06_Merge.l0]
    rw [if_pos (by omega), says_eq (by omega) (by omega) b hj8, says_eq (by omega) (by omega) a hj8, one_eq _ b hj8, one_eq _ a hj8, hor, e9]
    simp only [Option.bind_some]
    by_cases hb : hasP (m : Int) j
    · have h1 : mS n a m b (j + 1) = oneP (mS n a m b j) b j := if_pos hb
      have h2 : mB n m (j + 1) = mB n m j ||| 2 ^ j := if_pos (.inl ((hasP_iff hm hj8).1 hb))
      rw [if_pos (decide_eq_true hb), if_pos hw, h1, h2]
      rfl
    · rw [if_neg (by simpa using hb)]
      by_cases ha : hasP (n : Int) j
      · have h1 : mS n a m b (j + 1) = oneP (mS n a m b j) a j := (if_neg hb).trans (if_pos ha)
        have h2 : mB n m (j + 1) = mB n m j ||| 2 ^ j := if_pos (.inr ((hasP_iff hn hj8).1 ha))
        rw [if_pos (decide_eq_true ha), if_pos hw, h1, h2]
        rfl
      · have h1 : mS n a m b (j + 1) = mS n a m b j := (if_neg hb).trans (if_neg ha)
        have h2 : mB n m (j + 1) = mB n m j := if_neg (fun hc => hc.elim (fun h => hb ((hasP_iff hm hj8).2 h)) (fun h => ha ((hasP_iff hn hj8).2 h)))
        rw [if_neg (by simpa using ha), h1, h2]

theorem over_f0 (s : S23) (d : Int) (b : S23) : (overN s d b 8).f0 = if hasP d 0 then b.f0 else s.f0 := by
  have e7 : (overN s d b 8).f0 = (overN s d b 7).f0 := by
    show (if hasP d 7 then oneP (overN s d b 7) b 7 else overN s d b 7).f0 = _
    by_cases h : hasP d 7
    · rw [if_pos h]; rfl
    · rw [if_neg h]
  have e6 : (overN s d b 7).f0 = (overN s d b 6).f0 := by
    show (if hasP d 6 then oneP (overN s d b 6) b 6 else overN s d b 6).f0 = _
    by_cases h : hasP d 6
    · rw [if_pos h]; rfl
    · rw [if_neg h]
  have e5 : (overN s d b 6).f0 = (overN s d b 5).f0 := by
    show (if hasP d 5 then oneP (overN s d b 5) b 5 else overN s d b 5).f0 = _
    by_cases h : hasP d 5
    · rw [if_pos h]; rfl
    · rw [if_neg h]
  have e4 : (overN s d b 5).f0 = (overN s d b 4).f0 := by
    show (if hasP d 4 then oneP (overN s d b 4) b 4 else overN s d b 4).f0 = _
    by_cases h : hasP d 4
    · rw [if_pos h]; rfl
    · rw [if_neg h]
  have e3 : (overN s d b 4).f0 = (overN s d b 3).f0 := by
    show (if hasP d 3 then oneP (overN s d b 3) b 3 else overN s d b 3).f0 = _
    by_cases h : hasP d 3
    · rw [if_pos h]; rfl
    · rw [if_neg h]
  have e2 : (overN s d b 3).f0 = (overN s d b 2).f0 := by
    show (if hasP d 2 then oneP (overN s d b 2) b 2 else overN s d b 2).f0 = _
    by_cases h : hasP d 2
    · rw [if_pos h]; rfl
    · rw [if_neg h]
  have e1 : (overN s d b 2).f0 = (overN s d b 1).f0 := by
    show (if hasP d 1 then oneP (overN s d b 1) b 1 else overN s d b 1).f0 = _
    by_cases h : hasP d 1
    · rw [if_pos h]; rfl
    · rw [if_neg h]
  have e0 : (overN s d b 1).f0 = if hasP d 0 then b.f0 else (overN s d b 0).f0 := by
    show (if hasP d 0 then oneP (overN s d b 0) b 0 else overN s d b 0).f0 = _
    by_cases h : hasP d 0
    · rw [if_pos h, if_pos h]; rfl
    · rw [if_neg h, if_neg h]
  rw [e7, e6, e5, e4, e3, e2, e1, e0]
  rfl
theorem over_f1 (s : S23) (d : Int) (b : S23) : (overN s d b 8).f1 = if hasP d 1 then b.f1 else s.f1 := by
  have e7 : (overN s d b 8).f1 = (overN s d b 7).f1 := by
    show (if hasP d 7 then oneP (overN s d b 7) b 7 else overN s d b 7).f1 = _
    by_cases h : hasP d 7
    · rw [if_pos h]; rfl
    · rw [if_neg h]
  have e6 : (overN s d b 7).f1 = (overN s d b 6).f1 := by
    show (if hasP d 6 then oneP (overN s d b 6) b 6 else overN s d b 6).f1 = _
    by_cases h : hasP d 6
    · rw [if_pos h]; rfl
    · rw [if_neg h]
  have e5 : (overN s d b 6).f1 = (overN s d b 5).f1 := by
    show (if hasP d 5 then oneP (overN s d b 5) b 5 else overN s d b 5).f1 = _
    by_cases h : hasP d 5
    · rw [if_pos h]; rfl
    · rw [if_neg h]
  have e4 : (overN s d b 5).f1 = (overN s d b 4).f1 := by
    show (if hasP d 4 then oneP (overN s d b 4) b 4 else overN s d b 4).f1 = _
    by_cases h : hasP d 4
    · rw [if_pos h]; rfl
    · rw [if_neg h]
  have e3 : (overN s d b 4).f1 = (overN s d b 3).f1 := by
    show (if hasP d 3 then oneP (overN s d b 3) b 3 else overN s d b 3).f1 = _
    by_cases h : hasP d 3
    · rw [if_pos h]; rfl
    · rw [if_neg h]
  have e2 : (overN s d b 3).f1 = (overN s d b 2).f1 := by
    show (if hasP d 2 then oneP (overN s d b 2) b 2 else overN s d b 2).f1 = _
    by_cases h : hasP d 2
    · rw [if_pos h]; rfl
    · rw [if_neg h]
  have e1 : (overN s d b 2).f1 = if hasP d 1 then b.f1 else (overN s d b 1).f1 := by
    show (if hasP d 1 then oneP (overN s d b 1) b 1 else overN s d b 1).f1 = _
    by_cases h : hasP d 1
    · rw [if_pos h, if_pos h]; rfl
    · rw [if_neg h, if_neg h]
  have e0 : (overN s d b 1).f1 = (overN s d b 0).f1 := by
    show (if hasP d 0 then oneP (overN s d b 0) b 0 else overN s d b 0).f1 = _
    by_cases h : hasP d 0
    · rw [if_pos h]; rfl
    · rw [if_neg h]
  rw [e7, e6, e5, e4, e3, e2, e1, e0]
  rfl
theorem over_f2 (s : S23) (d : Int) (b : S23) : (overN s d b 8).f2 = if hasP d 2 then b.f2 else s.f2 := by
  have e7 : (overN s d b 8).f2 = (overN s d b 7).f2 := by
    show (if hasP d 7 then oneP (overN s d b 7) b 7 else overN s d b 7).f2 = _
    by_cases h : hasP d 7
    · rw [if_pos h]; rfl
    · rw [if_neg h]
  have e6 : (overN s d b 7).f2 = (overN s d b 6).f2 := by
    show (if hasP d 6 then oneP (overN s d b 6) b 6 else overN s d b 6).f2 = _
    by_cases h : hasP d 6
    · rw [if_pos h]; rfl
    · rw [if_neg h]
  have e5 : (overN s d b 6).f2 = (overN s d b 5).f2 := by
    show (if hasP d 5 then oneP (overN s d b 5) b 5 else overN s d b 5).f2 = _
    by_cases h : hasP d 5
    · rw [if_pos h]; rfl
    · rw [if_neg h]
  have e4 : (overN s d b 5).f2 = (overN s d b 4).f2 := by
    show (if hasP d 4 then oneP (overN s d b 4) b 4 else overN s d b 4).f2 = _
    by_cases h : hasP d 4
    · rw [if_pos h]; rfl
    · rw [if_neg h]
  have e3 : (overN s d b 4).f2 = (overN s d b 3).f2 := by
    show (if hasP d 3 then oneP (overN s d b 3) b 3 else overN s d b 3).f2 = _
    by_cases h : hasP d 3
    · rw [if_pos h]; rfl
    · rw [if_neg h]
  have e2 : (overN s d b 3).f2 = if hasP d 2 then b.f2 else (overN s d b 2).f2 := by
    show (if hasP d 2 then oneP (overN s d b 2) b 2 else overN s d b 2).f2 = _
    by_cases h : hasP d 2
    · rw [if_pos h, if_pos h]; rfl
    · rw [if_neg h, if_neg h]
  have e1 : (overN s d b 2).f2 = (overN s d b 1).f2 := by
    show (if hasP d 1 then oneP (overN s d b 1) b 1 else overN s d b 1).f2 = _
    by_cases h : hasP d 1
    · rw [if_pos h]; rfl
    · rw [if_neg h]
  have e0 : (overN s d b 1).f2 = (overN s d b 0).f2 := by
    show (if hasP d 0 then oneP (overN s d b 0) b 0 else overN s d b 0).f2 = _
    by_cases h : hasP d 0
    · rw [if_pos h]; rfl
    · rw [if_neg h]
  rw [e7, e6, e5, e4, e3, e2, e1, e0]
  rfl
theorem over_f3 (s : S23) (d : Int) (b : S23) : (overN s d b 8).f3 = if hasP d 3 then b.f3 else s.f3 := by
  have e7 : (overN s d b 8).f3 = (overN s d b 7).f3 := by
    show (if hasP d 7 then oneP (overN s d b 7) b 7 else overN s d b 7).f3 = _
    by_cases h : hasP d 7
    · rw [if_pos h]; rfl
    · rw [if_neg h]
  have e6 : (overN s d b 7).f3 = (overN s d b 6).f3 := by
    show (if hasP d 6 then oneP (overN s d b 6) b 6 else overN s d b 6).f3 = _
    by_cases h : hasP d 6
    · rw [if_pos h]; rfl
    · rw [if_neg h]
  have e5 : (overN s d b 6).f3 = (overN s d b 5).f3 := by
    show (if hasP d 5 then oneP (overN s d b 5) b 5 else overN s d b 5).f3 = _
    by_cases h : hasP d 5
    · rw [if_pos h]; rfl
    · rw [if_neg h]
  have e4 : (overN s d b 5).f3 = (overN s d b 4).f3 := by
    show (if hasP d 4 then oneP (overN s d b 4) b 4 else overN s d b 4).f3 = _
    by_cases h : hasP d 4
    · rw [if_pos h]; rfl
    · rw [if_neg h]
  have e3 : (overN s d b 4).f3 = if hasP d 3 then b.f3 else (overN s d b 3).f3 := by
    show (if hasP d 3 then oneP (overN s d b 3) b 3 else overN s d b 3).f3 = _
    by_cases h : hasP d 3
    · rw [if_pos h, if_pos h]; rfl
    · rw [if_neg h, if_neg h]
  have e2 : (overN s d b 3).f3 = (overN s d b 2).f3 := by
    show (if hasP d 2 then oneP (overN s d b 2) b 2 else overN s d b 2).f3 = _
    by_cases h : hasP d 2
    · rw [if_pos h]; rfl
    · rw [if_neg h]
  have e1 : (overN s d b 2).f3 = (overN s d b 1).f3 := by
    show (if hasP d 1 then oneP (overN s d b 1) b 1 else overN s d b 1).f3 = _
    by_cases h : hasP d 1
    · rw [if_pos h]; rfl
    · rw [if_neg h]
  have e0 : (overN s d b 1).f3 = (overN s d b 0).f3 := by
    show (if hasP d 0 then oneP (overN s d b 0) b 0 else overN s d b 0).f3 = _
    by_cases h : hasP d 0
    · rw [if_pos h]; rfl
    · rw [if_neg h]
  rw [e7, e6, e5, e4, e3, e2, e1, e0]
  rfl
theorem over_f4 (s : S23) (d : Int) (b : S23) : (overN s d b 8).f4 = if hasP d 4 then b.f4 else s.f4 := by
  have e7 : (overN s d b 8).f4 = (overN s d b 7).f4 := by
    show (if hasP d 7 then oneP (overN s d b 7) b 7 else overN s d b 7).f4 = _
    by_cases h : hasP d 7
    · rw [if_pos h]; rfl
    · rw [if_neg h]
  have e6 : (overN s d b 7).f4 = (overN s d b 6).f4 := by
    show (if hasP d 6 then oneP (overN s d b 6) b 6 else overN s d b 6).f4 = _
    by_cases h : hasP d 6
    · rw [if_pos h]; rfl
    · rw [if_neg h]
  have e5 : (overN s d b 6).f4 = (overN s d b 5).f4 := by
    show (if hasP d 5 then oneP (overN s d b 5) b 5 else overN s d b 5).f4 = _
    by_cases h : hasP d 5
    · rw [if_pos h]; rfl
    · rw [if_neg h]
  have e4 : (overN s d b 5).f4 = if hasP d 4 then b.f4 else (overN s d b 4).f4 := by
    show (if hasP d 4 then oneP (overN s d b 4) b 4 else overN s d b 4).f4 = _
    by_cases h : hasP d 4
    · rw [if_pos h, if_pos h]; rfl
    · rw [if_neg h, if_neg h]
  have e3 : (overN s d b 4).f4 = (overN s d b 3).f4 := by
    show (if hasP d 3 then oneP (overN s d b 3) b 3 else overN s d b 3).f4 = _
    by_cases h : hasP d 3
    · rw [if_pos h]; rfl
    · rw [if_neg h]
  have e2 : (overN s d b 3).f4 = (overN s d b 2).f4 := by
    show (if hasP d 2 then oneP (overN s d b 2) b 2 else overN s d b 2).f4 = _
    by_cases h : hasP d 2
    · rw [if_pos h]; rfl
    · rw [if_neg h]
  have e1 : (overN s d b 2).f4 = (overN s d b 1).f4 := by
    show (if hasP d 1 then oneP (overN s d b 1) b 1 else overN s d b 1).f4 = _
    by_cases h : hasP d 1
    · rw [if_pos h]; rfl
    · rw [if_neg h]
  have e0 : (overN s d b 1).f4 = (overN s d b 0).f4 := by
    show (if hasP d 0 then oneP (overN s d b 0) b 0 else overN s d b 0).f4 = _
    by_cases h : hasP d 0
    · rw [if_pos h]; rfl
    · rw [if_neg h]
  rw [e7, e6, e5, e4, e3, e2, e1, e0]
  rfl
theorem over_f5 (s : S23) (d : Int) (b : S23) : (overN s d b 8).f5 = if hasP d 5 then b.f5 else s.f5 := by
  have e7 : (overN s d b 8).f5 = (overN s d b 7).f5 := by
    show (if hasP d 7 then oneP (overN s d b 7) b 7 else overN s d b 7).f5 = _
    by_cases h : hasP d 7
    · rw [if_pos h]; rfl
    · rw [if_neg h]
  have e6 : (overN s d b 7).f5 = (overN s d b 6).f5 := by
    show (if hasP d 6 then oneP (overN s d b 6) b 6 else overN s d b 6).f5 = _
    by_cases h : hasP d 6
    · rw [if_pos h]; rfl
    · rw [if_neg h]
  have e5 : (overN s d b 6).f5 = if hasP d 5 then b.f5 else (overN s d b 5).f5 := by
    show (if hasP d 5 then oneP (overN s d b 5) b 5 else overN s d b 5).f5 = _
    by_cases h : hasP d 5
    · rw [if_pos h, if_pos h]; rfl
    · rw [if_neg h, if_neg h]
  have e4 : (overN s d b 5).f5 = (overN s d b 4).f5 := by
    show (if hasP d 4 then oneP (overN s d b 4) b 4 else overN s d b 4).f5 = _
    by_cases h : hasP d 4
    · rw [if_pos h]; rfl
    · rw [if_neg h]
  have e3 : (overN s d b 4).f5 = (overN s d b 3).f5 := by
    show (if hasP d 3 then oneP (overN s d b 3) b 3 else overN s d b 3).f5 = _
    by_cases h : hasP d 3
    · rw [if_pos h]; rfl
    · rw [if_neg h]
  have e2 : (overN s d b 3).f5 = (overN s d b 2).f5 := by
    show (if hasP d 2 then oneP (overN s d b 2) b 2 else overN s d b 2).f5 = _
    by_cases h : hasP d 2
    · rw [if_pos h]; rfl
    · rw [if_neg h]
  have e1 : (overN s d b 2).f5 = (overN s d b 1).f5 := by
    show (if hasP d 1 then oneP (overN s d b 1) b 1 else overN s d b 1).f5 = _
    by_cases h : hasP d 1
    · rw [if_pos h]; rfl
    · rw [if_neg h]
  have e0 : (overN s d b 1).f5 = (overN s d b 0).f5 := by
    show (if hasP d 0 then oneP (overN s d b 0) b 0 else overN s d b 0).f5 = _
    by_cases h : hasP d 0
    · rw [if_pos h]; rfl
    · rw [if_neg h]
  rw [e7, e6, e5, e4, e3, e2, e1, e0]
  rfl
theorem over_f6 (s : S23) (d : Int) (b : S23) : (overN s d b 8).f6 = if hasP d 6 then b.f6 else s.f6 := by
  have e7 : (overN s d b 8).f6 = (overN s d b 7).f6 := by
    show (if hasP d 7 then oneP (overN s d b 7) b 7 else overN s d b 7).f6 = _
    by_cases h : hasP d 7
    · rw [if_pos h]; rfl
    · rw [if_neg h]
  have e6 : (overN s d b 7).f6 = if hasP d 6 then b.f6 else (overN s d b 6).f6 := by
    show (if hasP d 6 then oneP (overN s d b 6) b 6 else overN s d b 6).f6 = _
    by_cases h : hasP d 6
    · rw [if_pos h, if_pos h]; rfl
    · rw [if_neg h, if_neg h]
  have e5 : (overN s d b 6).f6 = (overN s d b 5).f6 := by
    show (if hasP d 5 then oneP (overN s d b 5) b 5 else overN s d b 5).f6 = _
    by_cases h : hasP d 5
    · rw [if_pos h]; rfl
    · rw [if_neg h]
  have e4 : (overN s d b 5).f6 = (overN s d b 4).f6 := by
    show (if hasP d 4 then oneP (overN s d b 4) b 4 else overN s d b 4).f6 = _
    by_cases h : hasP d 4
    · rw [if_pos h]; rfl
    · rw [if_neg h]
  have e3 : (overN s d b 4).f6 = (overN s d b 3).f6 := by
    show (if hasP d 3 then oneP (overN s d b 3) b 3 else overN s d b 3).f6 = _
    by_cases h : hasP d 3
    · rw [if_pos h]; rfl
    · rw [if_neg h]
  have e2 : (overN s d b 3).f6 = (overN s d b 2).f6 := by
    show (if hasP d 2 then oneP (overN s d b 2) b 2 else overN s d b 2).f6 = _
    by_cases h : hasP d 2
    · rw [if_pos h]; rfl
    · rw [if_neg h]
  have e1 : (overN s d b 2).f6 = (overN s d b 1).f6 := by
    show (if hasP d 1 then oneP (overN s d b 1) b 1 else overN s d b 1).f6 = _
    by_cases h : hasP d 1
    · rw [if_pos h]; rfl
    · rw [if_neg h]
  have e0 : (overN s d b 1).f6 = (overN s d b 0).f6 := by
    show (if hasP d 0 then oneP (overN s d b 0) b 0 else overN s d b 0).f6 = _
    by_cases h : hasP d 0
    · rw [if_pos h]; rfl
    · rw [if_neg h]
  rw [e7, e6, e5, e4, e3, e2, e1, e0]
  rfl
theorem over_f7 (s : S23) (d : Int) (b : S23) : (overN s d b 8).f7 = if hasP d 7 then b.f7 else s.f7 := by
  have e7 : (overN s d b 8).f7 = if hasP d 7 then b.f7 else (overN s d b 7).f7 := by
    show (if hasP d 7 then oneP (overN s d b 7) b 7 else overN s d b 7).f7 = _
    by_cases h : hasP d 7
    · rw [if_pos h, if_pos h]; rfl
    · rw [if_neg h, if_neg h]
  have e6 : (overN s d b 7).f7 = (overN s d b 6).f7 := by
    show (if hasP d 6 then oneP (overN s d b 6) b 6 else overN s d b 6).f7 = _
    by_cases h : hasP d 6
    · rw [if_pos h]; rfl
    · rw [if_neg h]
  have e5 : (overN s d b 6).f7 = (overN s d b 5).f7 := by
    show (if hasP d 5 then oneP (overN s d b 5) b 5 else overN s d b 5).f7 = _
    by_cases h : hasP d 5
    · rw [if_pos h]; rfl
    · rw [if_neg h]
  have e4 : (overN s d b 5).f7 = (overN s d b 4).f7 := by
    show (if hasP d 4 then oneP (overN s d b 4) b 4 else overN s d b 4).f7 = _
    by_cases h : hasP d 4
    · rw [if_pos h]; rfl
    · rw [if_neg h]
  have e3 : (overN s d b 4).f7 = (overN s d b 3).f7 := by
    show (if hasP d 3 then oneP (overN s d b 3) b 3 else overN s d b 3).f7 = _
    by_cases h : hasP d 3
    · rw [if_pos h]; rfl
    · rw [if_neg h]
  have e2 : (overN s d b 3).f7 = (overN s d b 2).f7 := by
    show (if hasP d 2 then oneP (overN s d b 2) b 2 else overN s d b 2).f7 = _
    by_cases h : hasP d 2
    · rw [if_pos h]; rfl
    · rw [if_neg h]
  have e1 : (overN s d b 2).f7 = (overN s d b 1).f7 := by
    show (if hasP d 1 then oneP (overN s d b 1) b 1 else overN s d b 1).f7 = _
    by_cases h : hasP d 1
    · rw [if_pos h]; rfl
    · rw [if_neg h]
  have e0 : (overN s d b 1).f7 = (overN s d b 0).f7 := by
    show (if hasP d 0 then oneP (overN s d b 0) b 0 else overN s d b 0).f7 = _
    by_cases h : hasP d 0
    · rw [if_pos h]; rfl
    · rw [if_neg h]
  rw [e7, e6, e5, e4, e3, e2, e1, e0]
  rfl
theorem over_f8 (s : S23) (d : Int) (b : S23) : (overN s d b 8).f8 = if hasP d 7 then b.f8 else s.f8 := by
  have e7 : (overN s d b 8).f8 = if hasP d 7 then b.f8 else (overN s d b 7).f8 := by
    show (if hasP d 7 then oneP (overN s d b 7) b 7 else overN s d b 7).f8 = _
    by_cases h : hasP d 7
    · rw [if_pos h, if_pos h]; rfl
    · rw [if_neg h, if_neg h]
  have e6 : (overN s d b 7).f8 = (overN s d b 6).f8 := by
    show (if hasP d 6 then oneP (overN s d b 6) b 6 else overN s d b 6).f8 = _
    by_cases h : hasP d 6
    · rw [if_pos h]; rfl
    · rw [if_neg h]
  have e5 : (overN s d b 6).f8 = (overN s d b 5).f8 := by
    show (if hasP d 5 then oneP (overN s d b 5) b 5 else overN s d b 5).f8 = _
    by_cases h : hasP d 5
    · rw [if_pos h]; rfl
    · rw [if_neg h]
  have e4 : (overN s d b 5).f8 = (overN s d b 4).f8 := by
    show (if hasP d 4 then oneP (overN s d b 4) b 4 else overN s d b 4).f8 = _
    by_cases h : hasP d 4
    · rw [if_pos h]; rfl
    · rw [if_neg h]
  have e3 : (overN s d b 4).f8 = (overN s d b 3).f8 := by
    show (if hasP d 3 then oneP (overN s d b 3) b 3 else overN s d b 3).f8 = _
    by_cases h : hasP d 3
    · rw [if_pos h]; rfl
    · rw [if_neg h]
  have e2 : (overN s d b 3).f8 = (overN s d b 2).f8 := by
    show (if hasP d 2 then oneP (overN s d b 2) b 2 else overN s d b 2).f8 = _
    by_cases h : hasP d 2
    · rw [if_pos h]; rfl
    · rw [if_neg h]
  have e1 : (overN s d b 2).f8 = (overN s d b 1).f8 := by
    show (if hasP d 1 then oneP (overN s d b 1) b 1 else overN s d b 1).f8 = _
    by_cases h : hasP d 1
    · rw [if_pos h]; rfl
    · rw [if_neg h]
  have e0 : (overN s d b 1).f8 = (overN s d b 0).f8 := by
    show (if hasP d 0 then oneP (overN s d b 0) b 0 else overN s d b 0).f8 = _
    by_cases h : hasP d 0
    · rw [if_pos h]; rfl
    · rw [if_neg h]
  rw [e7, e6, e5, e4, e3, e2, e1, e0]
  rfl
theorem mS_f0 (da : Int) (a : S23) (db : Int) (b : S23) : (mS da a db b 8).f0 = if hasP db 0 then b.f0 else if hasP da 0 then a.f0 else 0 := by
  have e7 : (mS da a db b 8).f0 = (mS da a db b 7).f0 := by
    show (if hasP db 7 then oneP (mS da a db b 7) b 7 else if hasP da 7 then oneP (mS da a db b 7) a 7 else mS da a db b 7).f0 = _
    by_cases h : hasP db 7
    · rw [if_pos h]; rfl
    by_cases h2 : hasP da 7
    · rw [if_neg h, if_pos h2]; rfl
    · rw [if_neg h, if_neg h2]
  have e6 : (mS da a db b 7).f0 = (mS da a db b 6).f0 := by
    show (if hasP db 6 then oneP (mS da a db b 6) b 6 else if hasP da 6 then oneP (mS da a db b 6) a 6 else mS da a db b 6).f0 = _
    by_cases h : hasP db 6
    · rw [if_pos h]; rfl
    by_cases h2 : hasP da 6
    · rw [if_neg h, if_pos h2]; rfl
    · rw [if_neg h, if_neg h2]
  have e5 : (mS da a db b 6).f0 = (mS da a db b 5).f0 := by
    show (if hasP db 5 then oneP (mS da a db b 5) b 5 else if hasP da 5 then oneP (mS da a db b 5) a 5 else mS da a db b 5).f0 = _
    by_cases h : hasP db 5
    · rw [if_pos h]; rfl
    by_cases h2 : hasP da 5
    · rw [if_neg h, if_pos h2]; rfl
    · rw [if_neg h, if_neg h2]
  have e4 : (mS da a db b 5).f0 = (mS da a db b 4).f0 := by
    show (if hasP db 4 then oneP (mS da a db b 4) b 4 else if hasP da 4 then oneP (mS da a db b 4) a 4 else mS da a db b 4).f0 = _
    by_cases h : hasP db 4
    · rw [if_pos h]; rfl
    by_cases h2 : hasP da 4
    · rw [if_neg h, if_pos h2]; rfl
    · rw [if_neg h, if_neg h2]
  have e3 : (mS da a db b 4).f0 = (mS da a db b 3).f0 := by
    show (if hasP db 3 then oneP (mS da a db b 3) b 3 else if hasP da 3 then oneP (mS da a db b 3) a 3 else mS da a db b 3).f0 = _
    by_cases h : hasP db 3
    · rw [if_pos h]; rfl
    by_cases h2 : hasP da 3
    · rw [if_neg h, if_pos h2]; rfl
    · rw [if_neg h, if_neg h2]
  have e2 : (mS da a db b 3).f0 = (mS da a db b 2).f0 := by
    show (if hasP db 2 then oneP (mS da a db b 2) b 2 else if hasP da 2 then oneP (mS da a db b 2) a 2 else mS da a db b 2).f0 = _
    by_cases h : hasP db 2
    · rw [if_pos h]; rfl
    by_cases h2 : hasP da 2
    · rw [if_neg h, if_pos h2]; rfl
    · rw [if_neg h, if_neg h2]
  have e1 : (mS da a db b 2).f0 = (mS da a db b 1).f0 := by
    show (if hasP db 1 then oneP (mS da a db b 1) b 1 else if hasP da 1 then oneP (mS da a db b 1) a 1 else mS da a db b 1).f0 = _
    by_cases h : hasP db 1
    · rw [if_pos h]; rfl
    by_cases h2 : hasP da 1
    · rw [if_neg h, if_pos h2]; rfl
    · rw [if_neg h, if_neg h2]
  have e0 : (mS da a db b 1).f0 = if hasP db 0 then b.f0 else if hasP da 0 then a.f0 else (mS da a db b 0).f0 := by
    show (if hasP db 0 then oneP (mS da a db b 0) b 0 else if hasP da 0 then oneP (mS da a db b 0) a 0 else mS da a db b 0).f0 = _
    by_cases h : hasP db 0
    · rw [if_pos h, if_pos h]; rfl
    by_cases h2 : hasP da 0
    · rw [if_neg h, if_pos h2, if_neg h, if_pos h2]; rfl
    · rw [if_neg h, if_neg h2, if_neg h, if_neg h2]
  rw [e7, e6, e5, e4, e3, e2, e1, e0]
  rfl
theorem mS_f1 (da : Int) (a : S23) (db : Int) (b : S23) : (mS da a db b 8).f1 = if hasP db 1 then b.f1 else if hasP da 1 then a.f1 else 0 := by
  have e7 : (mS da a db b 8).f1 = (mS da a db b 7).f1 := by
    show (if hasP db 7 then oneP (mS da a db b 7) b 7 else if hasP da 7 then oneP (mS da a db b 7) a 7 else mS da a db b 7).f1 = _
    by_cases h : hasP db 7
    · rw [if_pos h]; rfl
    by_cases h2 : hasP da 7
    · rw [if_neg h, if_pos h2]; rfl
    · rw [if_neg h, if_neg h2]
  have e6 : (mS da a db b 7).f1 = (mS da a db b 6).f1 := by
    show (if hasP db 6 then oneP (mS da a db b 6) b 6 else if hasP da 6 then oneP (mS da a db b 6) a 6 else mS da a db b 6).f1 = _
    by_cases h : hasP db 6
    · rw [if_pos h]; rfl
    by_cases h2 : hasP da 6
    · rw [if_neg h, if_pos h2]; rfl
    · rw [if_neg h, if_neg h2]
  have e5 : (mS da a db b 6).f1 = (mS da a db b 5).f1 := by
    show (if hasP db 5 then oneP (mS da a db b 5) b 5 else if hasP da 5 then oneP (mS da a db b 5) a 5 else mS da a db b 5).f1 = _
    by_cases h : hasP db 5
    · rw [if_pos h]; rfl
    by_cases h2 : hasP da 5
    · rw [if_neg h, if_pos h2]; rfl
    · rw [if_neg h, if_neg h2]
  have e4 : (mS da a db b 5).f1 = (mS da a db b 4).f1 := by
    show (if hasP db 4 then oneP (mS da a db b 4) b 4 else if hasP da 4 then oneP (mS da a db b 4) a 4 else mS da a db b 4).f1 = _
    by_cases h : hasP db 4
    · rw [if_pos h]; rfl
    by_cases h2 : hasP da 4
    · rw [if_neg h, if_pos h2]; rfl
    · rw [if_neg h, if_neg h2]
  have e3 : (mS da a db b 4).f1 = (mS da a db b 3).f1 := by
    show (if hasP db 3 then oneP (mS da a db b 3) b 3 else if hasP da 3 then oneP (mS da a db b 3) a 3 else mS da a db b 3).f1 = _
    by_cases h : hasP db 3
    · rw [if_pos h]; rfl
    by_cases h2 : hasP da 3
    · rw [if_neg h, if_pos h2]; rfl
    · rw [if_neg h, if_neg h2]
  have e2 : (mS da a db b 3).f1 = (mS da a db b 2).f1 := by
    show (if hasP db 2 then oneP (mS da a db b 2) b 2 else if hasP da 2 then oneP (mS da a db b 2) a 2 else mS da a db b 2).f1 = _
    by_cases h : hasP db 2
    · rw [if_pos h]; rfl
    by_cases h2 : hasP da 2
    · rw [if_neg h, if_pos h2]; rfl
    · rw [if_neg h, if_neg h2]
  have e1 : (mS da a db b 2).f1 = if hasP db 1 then b.f1 else if hasP da 1 then a.f1 else (mS da a db b 1).f1 := by
    show (if hasP db 1 then oneP (mS da a db b 1) b 1 else if hasP da 1 then oneP (mS da a db b 1) a 1 else mS da a db b 1).f1 = _
    by_cases h : hasP db 1
    · rw [if_pos h, if_pos h]; rfl
    by_cases h2 : hasP da 1
    · rw [if_neg h, if_pos h2, if_neg h, if_pos h2]; rfl
    · rw [if_neg h, if_neg h2, if_neg h, if_neg h2]
  have e0 : (mS da a db b 1).f1 = (mS da a db b 0).f1 := by
    show (if hasP db 0 then oneP (mS da a db b 0) b 0 else if hasP da 0 then oneP (mS da a db b 0) a 0 else mS da a db b 0).f1 = _
    by_cases h : hasP db 0
    · rw [if_pos h]; rfl
    by_cases h2 : hasP da 0
    · rw [if_neg h, if_pos h2]; rfl
    · rw [if_neg h, if_neg h2]
  rw [e7, e6, e5, e4, e3, e2, e1, e0]
  rfl
theorem mS_f2 (da : Int) (a : S23) (db : Int) (b : S23) : (mS da a db b 8).f2 = if hasP db 2 then b.f2 else if hasP da 2 then a.f2 else 0 := by
  have e7 : (mS da a db b 8).f2 = (mS da a db b 7).f2 := by
    show (if hasP db 7 then oneP (mS da a db b 7) b 7 else if hasP da 7 then oneP (mS da a db b 7) a 7 else mS da a db b 7).f2 = _
    by_cases h : hasP db 7
    · rw [if_pos h]; rfl
    by_cases h2 : hasP da 7
    · rw [if_neg h, if_pos h2]; rfl
    · rw [if_neg h, if_neg h2]
  have e6 : (mS da a db b 7).f2 = (mS da a db b 6).f2 := by
    show (if hasP db 6 then oneP (mS da a db b 6) b 6 else if hasP da 6 then oneP (mS da a db b 6) a 6 else mS da a db b 6).f2 = _
    by_cases h : hasP db 6
    · rw [if_pos h]; rfl
    by_cases h2 : hasP da 6
    · rw [if_neg h, if_pos h2]; rfl
    · rw [if_neg h, if_neg h2]
  have e5 : (mS da a db b 6).f2 = (mS da a db b 5).f2 := by
    show (if hasP db 5 then oneP (mS da a db b 5) b 5 else if hasP da 5 then oneP (mS da a db b 5) a 5 else mS da a db b 5).f2 = _
    by_cases h : hasP db 5
    · rw [if_pos h]; rfl
    by_cases h2 : hasP da 5
    · rw [if_neg h, if_pos h2]; rfl
    · rw [if_neg h, if_neg h2]
  have e4 : (mS da a db b 5).f2 = (mS da a db b 4).f2 := by
    show (if hasP db 4 then oneP (mS da a db b 4) b 4 else if hasP da 4 then oneP (mS da a db b 4) a 4 else mS da a db b 4).f2 = _
    by_cases h : hasP db 4
    · rw [if_pos h]; rfl
    by_cases h2 : hasP da 4
    · rw [if_neg h, if_pos h2]; rfl
    · rw [if_neg h, if_neg h2]
  have e3 : (mS da a db b 4).f2 = (mS da a db b 3).f2 := by
    show (if hasP db 3 then oneP (mS da a db b 3) b 3 else if hasP da 3 then oneP (mS da a db b 3) a 3 else mS da a db b 3).f2 = _
    by_cases h : hasP db 3
    · rw [if_pos h]; rfl
    by_cases h2 : hasP da 3
    · rw [if_neg h, if_pos h2]; rfl
    · rw [if_neg h, if_neg h2]
  have e2 : (mS da a db b 3).f2 = if hasP db 2 then b.f2 else if hasP da 2 then a.f2 else (mS da a db b 2).f2 := by
    show (if hasP db 2 then oneP (mS da a db b 2) b 2 else if hasP da 2 then oneP (mS da a db b 2) a 2 else mS da a db b 2).f2 = _
    by_cases h : hasP db 2
    · rw [if_pos h, if_pos h]; rfl
    by_cases h2 : hasP da 2
    · rw [if_neg h, if_pos h2, if_neg h, if_pos h2]; rfl
    · rw [if_neg h, if_neg h2, if_neg h, if_neg h2]
  have e1 : (mS da a db b 2).f2 = (mS da a db b 1).f2 := by
    show (if hasP db 1 then oneP (mS da a db b 1) b 1 else if hasP da 1 then oneP (mS da a db b 1) a 1 else mS da a db b 1).f2 = _
    by_cases h : hasP db 1
    · rw [if_pos h]; rfl
    by_cases h2 : hasP da 1
    · rw [if_neg h, if_pos h2]; rfl
    · rw [if_neg h, if_neg h2]
  have e0 : (mS da a db b 1).f2 = (mS da a db b 0).f2 := by
    show (if hasP db 0 then oneP (mS da a db b 0) b 0 else if hasP da 0 then oneP (mS da a db b 0) a 0 else mS da a db b 0).f2 = _
    by_cases h : hasP db 0
    · rw [if_pos h]; rfl
    by_cases h2 : hasP da 0
    · rw [if_neg h, if_pos h2]; rfl
    · rw [if_neg h, if_neg h2]
  rw [e7, e6, e5, e4, e3, e2, e1, e0]
  rfl
theorem mS_f3 (da : Int) (a : S23) (db : Int) (b : S23) : (mS da a db b 8).f3 = if hasP db 3 then b.f3 else if hasP da 3 then a.f3 else 0 := by
  have e7 : (mS da a db b 8).f3 = (mS da a db b 7).f3 := by
    show (if hasP db 7 then oneP (mS da a db b 7) b 7 else if hasP da 7 then oneP (mS da a db b 7) a 7 else mS da a db b 7).f3 = _
    by_cases h : hasP db 7
    · rw [if_pos h]; rfl
    by_cases h2 : hasP da 7
    · rw [if_neg h, if_pos h2]; rfl
    · rw [if_neg h, if_neg h2]
  have e6 : (mS da a db b 7).f3 = (mS da a db b 6).f3 := by
    show (if hasP db 6 then oneP (mS da a db b 6) b 6 else if hasP da 6 then oneP (mS da a db b 6) a 6 else mS da a db b 6).f3 = _
    by_cases h : hasP db 6
    · rw [if_pos h]; rfl
    by_cases h2 : hasP da 6
    · rw [if_neg h, if_pos h2]; rfl
    · rw [if_neg h, if_neg h2]
  have e5 : (mS da a db b 6).f3 = (mS da a db b 5).f3 := by
    show (if hasP db 5 then oneP (mS da a db b 5) b 5 else if hasP da 5 then oneP (mS da a db b 5) a 5 else mS da a db b 5).f3 = _
    by_cases h : hasP db 5
    · rw [if_pos h]; rfl
    by_cases h2 : hasP da 5
    · rw [if_neg h, if_pos h2]; rfl
    · rw [if_neg h, if_neg h2]
  have e4 : (mS da a db b 5).f3 = (mS da a db b 4).f3 := by
    show (if hasP db 4 then oneP (mS da a db b 4) b 4 else if hasP da 4 then oneP (mS da a db b 4) a 4 else mS da a db b 4).f3 = _
    by_cases h : hasP db 4
    · rw [if_pos h]; rfl
    by_cases h2 : hasP da 4
    · rw [if_neg h, if_pos h2]; rfl
    · rw [if_neg h, if_neg h2]
  have e3 : (mS da a db b 4).f3 = if hasP db 3 then b.f3 else if hasP da 3 then a.f3 else (mS da a db b 3).f3 := by
    show (if hasP db 3 then oneP (mS da a db b 3) b 3 else if hasP da 3 then oneP (mS da a db b 3) a 3 else mS da a db b 3).f3 = _
    by_cases h : hasP db 3
    · rw [if_pos h, if_pos h]; rfl
    by_cases h2 : hasP da 3
    · rw [if_neg h, if_pos h2, if_neg h, if_pos h2]; rfl
    · rw [if_neg h, if_neg h2, if_neg h, if_neg h2]
  have e2 : (mS da a db b 3).f3 = (mS da a db b 2).f3 := by
    show (if hasP db 2 then oneP (mS da a db b 2) b 2 else if hasP da 2 then oneP (mS da a db b 2) a 2 else mS da a db b 2).f3 = _
    by_cases h : hasP db 2
    · rw [if_pos h]; rfl
    by_cases h2 : hasP da 2
    · rw [if_neg h, if_pos h2]; rfl
    · rw [if_neg h, if_neg h2]
  have e1 : (mS da a db b 2).f3 = (mS da a db b 1).f3 := by
    show (if hasP db 1 then oneP (mS da a db b 1) b 1 else if hasP da 1 then oneP (mS da a db b 1) a 1 else mS da a db b 1).f3 = _
    by_cases h : hasP db 1
    · rw [if_pos h]; rfl
    by_cases h2 : hasP da 1
    · rw [if_neg h, if_pos h2]; rfl
    · rw [if_neg h, if_neg h2]
  have e0 : (mS da a db b 1).f3 = (mS da a db b 0).f3 := by
    show (if hasP db 0 then oneP (mS da a db b 0) b 0 else if hasP da 0 then oneP (mS da a db b 0) a 0 else mS da a db b 0).f3 = _
    by_cases h : hasP db 0
    · rw [if_pos h]; rfl
    by_cases h2 : hasP da 0
    · rw [if_neg h, if_pos h2]; rfl
    · rw [if_neg h, if_neg h2]
  rw [e7, e6, e5, e4, e3, e2, e1, e0]
  rfl
theorem mS_f4 (da : Int) (a : S23) (db : Int) (b : S23) : (mS da a db b 8).f4 = if hasP db 4 then b.f4 else if hasP da 4 then a.f4 else 0 := by
  have e7 : (mS da a db b 8).f4 = (mS da a db b 7).f4 := by
    show (if hasP db 7 then oneP (mS da a db b 7) b 7 else if hasP da 7 then oneP (mS da a db b 7) a 7 else mS da a db b 7).f4 = _
    by_cases h : hasP db 7
    · rw [if_pos h]; rfl
    by_cases h2 : hasP da 7
    · rw [if_neg h, if_pos h2]; rfl
    · rw [if_neg h, if_neg h2]
  have e6 : (mS da a db b 7).f4 = (mS da a db b 6).f4 := by
    show (if hasP db 6 then oneP (mS da a db b 6) b 6 else if hasP da 6 then oneP (mS da a db b 6) a 6 else mS da a db b 6).f4 = _
    by_cases h : hasP db 6
    · rw [if_pos h]; rfl
    by_cases h2 : hasP da 6
    · rw [if_neg h, if_pos h2]; rfl
    · rw [if_neg h, if_neg h2]
  have e5 : (mS da a db b 6).f4 = (mS da a db b 5).f4 := by
    show (if hasP db 5 then oneP (mS da a db b 5) b 5 else if hasP da 5 then oneP (mS da a db b 5) a 5 else mS da a db b 5).f4 = _
    by_cases h : hasP db 5
    · rw [if_pos h]; rfl
    by_cases h2 : hasP da 5
    · rw [if_neg h, if_pos h2]; rfl
    · rw [if_neg h, if_neg h2]
  have e4 : (mS da a db b 5).f4 = if hasP db 4 then b.f4 else if hasP da 4 then a.f4 else (mS da a db b 4).f4 := by
    show (if hasP db 4 then oneP (mS da a db b 4) b 4 else if hasP da 4 then oneP (mS da a db b 4) a 4 else mS da a db b 4).f4 = _
    by_cases h : hasP db 4
    · rw [if_pos h, if_pos h]; rfl
    by_cases h2 : hasP da 4
    · rw [if_neg h, if_pos h2, if_neg h, if_pos h2]; rfl
    · rw [if_neg h, if_neg h2, if_neg h, if_neg h2]
  have e3 : (mS da a db b 4).f4 = (mS da a db b 3).f4 := by
    show (if hasP db 3 then oneP (mS da a db b 3) b 3 else if hasP da 3 then oneP (mS da a db b 3) a 3 else mS da a db b 3).f4 = _
    by_cases h : hasP db 3
    · rw [if_pos h]; rfl
    by_cases h2 : hasP da 3
    · rw [if_neg h, if_pos h2]; rfl
    · rw [if_neg h, if_neg h2]
  have e2 : (mS da a db b 3).f4 = (mS da a db b 2).f4 := by
    show (if hasP db 2 then oneP (mS da a db b 2) b 2 else if hasP da 2 then oneP (mS da a db b 2) a 2 else mS da a db b 2).f4 = _
    by_cases h : hasP db 2
    · rw [if_pos h]; rfl
    by_cases h2 : hasP da 2
    · rw [if_neg h, if_pos h2]; rfl
    · rw [if_neg h, if_neg h2]
  have e1 : (mS da a db b 2).f4 = (mS da a db b 1).f4 := by
    show (if hasP db 1 then oneP (mS da a db b 1) b 1 else if hasP da 1 then oneP (mS da a db b 1) a 1 else mS da a db b 1).f4 = _
    by_cases h : hasP db 1
    · rw [if_pos h]; rfl
    by_cases h2 : hasP da 1
    · rw [if_neg h, if_pos h2]; rfl
    · rw [if_neg h, if_neg h2]
  have e0 : (mS da a db b 1).f4 = (mS da a db b 0).f4 := by
    show (if hasP db 0 then oneP (mS da a db b 0) b 0 else if hasP da 0 then oneP (mS da a db b 0) a 0 else mS da a db b 0).f4 = _
    by_cases h : hasP db 0
    · rw [if_pos h]; rfl
    by_cases h2 : hasP da 0
    · rw [if_neg h, if_pos h2]; rfl
    · rw [if_neg h, if_neg h2]
  rw [e7, e6, e5, e4, e3, e2, e1, e0]
  rfl
theorem mS_f5 (da : Int) (a : S23) (db : Int) (b : S23) : (mS da a db b 8).f5 = if hasP db 5 then b.f5 else if hasP da 5 then a.f5 else 0 := by
  have e7 : (mS da a db b 8).f5 = (mS da a db b 7).f5 := by
    show (if hasP db 7 then oneP (mS da a db b 7) b 7 else if hasP da 7 then oneP (mS da a db b 7) a 7 else mS da a db b 7).f5 = _
    by_cases h : hasP db 7
    · rw [if_pos h]; rfl
    by_cases h2 : hasP da 7
    · rw [if_neg h, if_pos h2]; rfl
    · rw [if_neg h, if_neg h2]
  have e6 : (mS da a db b 7).f5 = (mS da a db b 6).f5 := by
    show (if hasP db 6 then oneP (mS da a db b 6) b 6 else if hasP da 6 then oneP (mS da a db b 6) a 6 else mS da a db b 6).f5 = _
    by_cases h : hasP db 6
    · rw [if_pos h]; rfl
    by_cases h2 : hasP da 6
    · rw [if_neg h, if_pos h2]; rfl
    · rw [if_neg h, if_neg h2]
  have e5 : (mS da a db b 6).f5 = if hasP db 5 then b.f5 else if hasP da 5 then a.f5 else (mS da a db b 5).f5 := by
    show (if hasP db 5 then oneP (mS da a db b 5) b 5 else if hasP da 5 then oneP (mS da a db b 5) a 5 else mS da a db b 5).f5 = _
    by_cases h : hasP db 5
    · rw [if_pos h, if_pos h]; rfl
    by_cases h2 : hasP da 5
    · rw [if_neg h, if_pos h2, if_neg h, if_pos h2]; rfl
    · rw [if_neg h, if_neg h2, if_neg h, if_neg h2]
  have e4 : (mS da a db b 5).f5 = (mS da a db b 4).f5 := by
    show (if hasP db 4 then oneP (mS da a db b 4) b 4 else if hasP da 4 then oneP (mS da a db b 4) a 4 else mS da a db b 4).f5 = _
    by_cases h : hasP db 4
    · rw [if_pos h]; rfl
    by_cases h2 : hasP da 4
    · rw [if_neg h, if_pos h2]; rfl
    · rw [if_neg h, if_neg h2]
  have e3 : (mS da a db b 4).f5 = (mS da a db b 3).f5 := by
    show (if hasP db 3 then oneP (mS da a db b 3) b 3 else if hasP da 3 then oneP (mS da a db b 3) a 3 else mS da a db b 3).f5 = _
    by_cases h : hasP db 3
    · rw [if_pos h]; rfl
    by_cases h2 : hasP da 3
    · rw [if_neg h, if_pos h2]; rfl
    · rw [if_neg h, if_neg h2]
  have e2 : (mS da a db b 3).f5 = (mS da a db b 2).f5 := by
    show (if hasP db 2 then oneP (mS da a db b 2) b 2 else if hasP da 2 then oneP (mS da a db b 2) a 2 else mS da a db b 2).f5 = _
    by_cases h : hasP db 2
    · rw [if_pos h]; rfl
    by_cases h2 : hasP da 2
    · rw [if_neg h, if_pos h2]; rfl
    · rw [if_neg h, if_neg h2]
  have e1 : (mS da a db b 2).f5 = (mS da a db b 1).f5 := by
    show (if hasP db 1 then oneP (mS da a db b 1) b 1 else if hasP da 1 then oneP (mS da a db b 1) a 1 else mS da a db b 1).f5 = _
    by_cases h : hasP db 1
    · rw [if_pos h]; rfl
    by_cases h2 : hasP da 1
    · rw [if_neg h, if_pos h2]; rfl
    · rw [if_neg h, if_neg h2]
  have e0 : (mS da a db b 1).f5 = (mS da a db b 0).f5 := by
    show (if hasP db 0 then oneP (mS da a db b 0) b 0 else if hasP da 0 then oneP (mS da a db b 0) a 0 else mS da a db b 0).f5 = _
    by_cases h : hasP db 0
    · rw [if_pos h]; rfl
    by_cases h2 : hasP da 0
    · rw [if_neg h, if_pos h2]; rfl
    · rw [if_neg h, if_neg h2]
  rw [e7, e6, e5, e4, e3, e2, e1, e0]
  rfl
theorem mS_f6 (da : Int) (a : S23) (db : Int) (b : S23) : (mS da a db b 8).f6 = if hasP db 6 then b.f6 else if hasP da 6 then a.f6 else 0 := by
  have e7 : (mS da a db b 8).f6 = (mS da a db b 7).f6 := by
    show (if hasP db 7 then oneP (mS da a db b 7) b 7 else if hasP da 7 then oneP (mS da a db b 7) a 7 else mS da a db b 7).f6 = _
    by_cases h : hasP db 7
    · rw [if_pos h]; rfl
    by_cases h2 : hasP da 7
    · rw [if_neg h, if_pos h2]; rfl
    · rw [if_neg h, if_neg h2]
  have e6 : (mS da a db b 7).f6 = if hasP db 6 then b.f6 else if hasP da 6 then a.f6 else (mS da a db b 6).f6 := by
    show (if hasP db 6 then oneP (mS da a db b 6) b 6 else if hasP da 6 then oneP (mS da a db b 6) a 6 else mS da a db b 6).f6 = _
    by_cases h : hasP db 6
    · rw [if_pos h, if_pos h]; rfl
    by_cases h2 : hasP da 6
    · rw [if_neg h, if_pos h2, if_neg h, if_pos h2]; rfl
    · rw [if_neg h, if_neg h2, if_neg h, if_neg h2]
  have e5 : (mS da a db b 6).f6 = (mS da a db b 5).f6 := by
    show (if hasP db 5 then oneP (mS da a db b 5) b 5 else if hasP da 5 then oneP (mS da a db b 5) a 5 else mS da a db b 5).f6 = _
    by_cases h : hasP db 5
    · rw [if_pos h]; rfl
    by_cases h2 : hasP da 5
    · rw [if_neg h, if_pos h2]; rfl
    · rw [if_neg h, if_neg h2]
  have e4 : (mS da a db b 5).f6 = (mS da a db b 4).f6 := by
    show (if hasP db 4 then oneP (mS da a db b 4) b 4 else if hasP da 4 then oneP (mS da a db b 4) a 4 else mS da a db b 4).f6 = _
    by_cases h : hasP db 4
    · rw [if_pos h]; rfl
    by_cases h2 : hasP da 4
    · rw [if_neg h, if_pos h2]; rfl
    · rw [if_neg h, if_neg h2]
  have e3 : (mS da a db b 4).f6 = (mS da a db b 3).f6 := by
    show (if hasP db 3 then oneP (mS da a db b 3) b 3 else if hasP da 3 then oneP (mS da a db b 3) a 3 else mS da a db b 3).f6 = _
    by_cases h : hasP db 3
    · rw [if_pos h]; rfl
    by_cases h2 : hasP da 3
    · rw [if_neg h, if_pos h2]; rfl
    · rw [if_neg h, if_neg h2]
  have e2 : (mS da a db b 3).f6 = (mS da a db b 2).f6 := by
    show (if hasP db 2 then oneP (mS da a db b 2) b 2 else if hasP da 2 then oneP (mS da a db b 2) a 2 else mS da a db b 2).f6 = _
    by_cases h : hasP db 2
    · rw [if_pos h]; rfl
    by_cases h2 : hasP da 2
    · rw [if_neg h, if_pos h2]; rfl
    · rw [if_neg h, if_neg h2]
  have e1 : (mS da a db b 2).f6 = (mS da a db b 1).f6 := by
    show (if hasP db 1 then oneP (mS da a db b 1) b 1 else if hasP da 1 then oneP (mS da a db b 1) a 1 else mS da a db b 1).f6 = _
    by_cases h : hasP db 1
    · rw [if_pos h]; rfl
    by_cases h2 : hasP da 1
    · rw [if_neg h, if_pos h2]; rfl
    · rw [if_neg h, if_neg h2]
  have e0 : (mS da a db b 1).f6 = (mS da a db b 0).f6 := by
    show (if hasP db 0 then oneP (mS da a db b 0) b 0 else if hasP da 0 then oneP (mS da a db b 0) a 0 else mS da a db b 0).f6 = _
    by_cases h : hasP db 0
    · rw [if_pos h]; rfl
    by_cases h2 : hasP da 0
    · rw [if_neg h, if_pos h2]; rfl
    · rw [if_neg h, if_neg h2]
  rw [e7, e6, e5, e4, e3, e2, e1, e0]
  rfl
theorem mS_f7 (da : Int) (a : S23) (db : Int) (b : S23) : (mS da a db b 8).f7 = if hasP db 7 then b.f7 else if hasP da 7 then a.f7 else 0 := by
  have e7 : (mS da a db b 8).f7 = if hasP db 7 then b.f7 else if hasP da 7 then a.f7 else (mS da a db b 7).f7 := by
    show (if hasP db 7 then oneP (mS da a db b 7) b 7 else if hasP da 7 then oneP (mS da a db b 7) a 7 else mS da a db b 7).f7 = _
    by_cases h : hasP db 7
    · rw [if_pos h, if_pos h]; rfl
    by_cases h2 : hasP da 7
    · rw [if_neg h, if_pos h2, if_neg h, if_pos h2]; rfl
    · rw [if_neg h, if_neg h2, if_neg h, if_neg h2]
  have e6 : (mS da a db b 7).f7 = (mS da a db b 6).f7 := by
    show (if hasP db 6 then oneP (mS da a db b 6) b 6 else if hasP da 6 then oneP (mS da a db b 6) a 6 else mS da a db b 6).f7 = _
    by_cases h : hasP db 6
    · rw [if_pos h]; rfl
    by_cases h2 : hasP da 6
    · rw [if_neg h, if_pos h2]; rfl
    · rw [if_neg h, if_neg h2]
  have e5 : (mS da a db b 6).f7 = (mS da a db b 5).f7 := by
    show (if hasP db 5 then oneP (mS da a db b 5) b 5 else if hasP da 5 then oneP (mS da a db b 5) a 5 else mS da a db b 5).f7 = _
    by_cases h : hasP db 5
    · rw [if_pos h]; rfl
    by_cases h2 : hasP da 5
    · rw [if_neg h, if_pos h2]; rfl
    · rw [if_neg h, if_neg h2]
  have e4 : (mS da a db b 5).f7 = (mS da a db b 4).f7 := by
    show (if hasP db 4 then oneP (mS da a db b 4) b 4 else if hasP da 4 then oneP (mS da a db b 4) a 4 else mS da a db b 4).f7 = _
    by_cases h : hasP db 4
    · rw [if_pos h]; rfl
    by_cases h2 : hasP da 4
    · rw [if_neg h, if_pos h2]; rfl
    · rw [if_neg h, if_neg h2]
  have e3 : (mS da a db b 4).f7 = (mS da a db b 3).f7 := by
    show (if hasP db 3 then oneP (mS da a db b 3) b 3 else if hasP da 3 then oneP (mS da a db b 3) a 3 else mS da a db b 3).f7 = _
    by_cases h : hasP db 3
    · rw [if_pos h]; rfl
    by_cases h2 : hasP da 3
    · rw [if_neg h, if_pos h2]; rfl
    · rw [if_neg h, if_neg h2]
  have e2 : (mS da a db b 3).f7 = (mS da a db b 2).f7 := by
    show (if hasP db 2 then oneP (mS da a db b 2) b 2 else if hasP da 2 then oneP (mS da a db b 2) a 2 else mS da a db b 2).f7 = _
    by_cases h : hasP db 2
    · rw [if_pos h]; rfl
    by_cases h2 : hasP da 2
    · rw [if_neg h, if_pos h2]; rfl
    · rw [if_neg h, if_neg h2]
  have e1 : (mS da a db b 2).f7 = (mS da a db b 1).f7 := by
    show (if hasP db 1 then oneP (mS da a db b 1) b 1 else if hasP da 1 then oneP (mS da a db b 1) a 1 else mS da a db b 1).f7 = _
    by_cases h : hasP db 1
    · rw [if_pos h]; rfl
    by_cases h2 : hasP da 1
    · rw [if_neg h, if_pos h2]; rfl
    · rw [if_neg h, if_neg h2]
  have e0 : (mS da a db b 1).f7 = (mS da a db b 0).f7 := by
    show (if hasP db 0 then oneP (mS da a db b 0) b 0 else if hasP da 0 then oneP (mS da a db b 0) a 0 else mS da a db b 0).f7 = _
    by_cases h : hasP db 0
    · rw [if_pos h]; rfl
    by_cases h2 : hasP da 0
    · rw [if_neg h, if_pos h2]; rfl
    · rw [if_neg h, if_neg h2]
  rw [e7, e6, e5, e4, e3, e2, e1, e0]
  rfl
theorem mS_f8 (da : Int) (a : S23) (db : Int) (b : S23) : (mS da a db b 8).f8 = if hasP db 7 then b.f8 else if hasP da 7 then a.f8 else 0 := by
  have e7 : (mS da a db b 8).f8 = if hasP db 7 then b.f8 else if hasP da 7 then a.f8 else (mS da a db b 7).f8 := by
    show (if hasP db 7 then oneP (mS da a db b 7) b 7 else if hasP da 7 then oneP (mS da a db b 7) a 7 else mS da a db b 7).f8 = _
    by_cases h : hasP db 7
    · rw [if_pos h, if_pos h]; rfl
    by_cases h2 : hasP da 7
    · rw [if_neg h, if_pos h2, if_neg h, if_pos h2]; rfl
    · rw [if_neg h, if_neg h2, if_neg h, if_neg h2]
  have e6 : (mS da a db b 7).f8 = (mS da a db b 6).f8 := by
    show (if hasP db 6 then oneP (mS da a db b 6) b 6 else if hasP da 6 then oneP (mS da a db b 6) a 6 else mS da a db b 6).f8 = _
    by_cases h : hasP db 6
    · rw [if_pos h]; rfl
    by_cases h2 : hasP da 6
    · rw [if_neg h, if_pos h2]; rfl
    · rw [if_neg h, if_neg h2]
  have e5 : (mS da a db b 6).f8 = (mS da a db b 5).f8 := by
    show (if hasP db 5 then oneP (mS da a db b 5) b 5 else if hasP da 5 then oneP (mS da a db b 5) a 5 else mS da a db b 5).f8 = _
    by_cases h : hasP db 5
    · rw [if_pos h]; rfl
    by_cases h2 : hasP da 5
    · rw [if_neg h, if_pos h2]; rfl
    · rw [if_neg h, if_neg h2]
  have e4 : (mS da a db b 5).f8 = (mS da a db b 4).f8 := by
    show (if hasP db 4 then oneP (mS da a db b 4) b 4 else if hasP da 4 then oneP (mS da a db b 4) a 4 else mS da a db b 4).f8 = _
    by_cases h : hasP db 4
    · rw [if_pos h]; rfl
    by_cases h2 : hasP da 4
    · rw [if_neg h, if_pos h2]; rfl
    · rw [if_neg h, if_neg h2]
  have e3 : (mS da a db b 4).f8 = (mS da a db b 3).f8 := by
    show (if hasP db 3 then oneP (mS da a db b 3) b 3 else if hasP da 3 then oneP (mS da a db b 3) a 3 else mS da a db b 3).f8 = _
    by_cases h : hasP db 3
    · rw [if_pos h]; rfl
    by_cases h2 : hasP da 3
    · rw [if_neg h, if_pos h2]; rfl
    · rw [if_neg h, if_neg h2]
  have e2 : (mS da a db b 3).f8 = (mS da a db b 2).f8 := by
    show (if hasP db 2 then oneP (mS da a db b 2) b 2 else if hasP da 2 then oneP (mS da a db b 2) a 2 else mS da a db b 2).f8 = _
    by_cases h : hasP db 2
    · rw [if_pos h]; rfl
    by_cases h2 : hasP da 2
    · rw [if_neg h, if_pos h2]; rfl
    · rw [if_neg h, if_neg h2]
  have e1 : (mS da a db b 2).f8 = (mS da a db b 1).f8 := by
    show (if hasP db 1 then oneP (mS da a db b 1) b 1 else if hasP da 1 then oneP (mS da a db b 1) a 1 else mS da a db b 1).f8 = _
    by_cases h : hasP db 1
    · rw [if_pos h]; rfl
    by_cases h2 : hasP da 1
    · rw [if_neg h, if_pos h2]; rfl
    · rw [if_neg h, if_neg h2]
  have e0 : (mS da a db b 1).f8 = (mS da a db b 0).f8 := by
    show (if hasP db 0 then oneP (mS da a db b 0) b 0 else if hasP da 0 then oneP (mS da a db b 0) a 0 else mS da a db b 0).f8 = _
    by_cases h : hasP db 0
    · rw [if_pos h]; rfl
    by_cases h2 : hasP da 0
    · rw [if_neg h, if_pos h2]; rfl
    · rw [if_neg h, if_neg h2]
  rw [e7, e6, e5, e4, e3, e2, e1, e0]
  rfl
theorem same_eq {x y : S23} (h : sameP x y = true) : x = y := by
  simp only [sameP, Bool.and_eq_true, beq_iff_eq] at h
  obtain ⟨h0, h1, h2, h3, h4, h5, h6, h7, h8⟩ := h
  cases x; cases y
  simp only at h0 h1 h2 h3 h4 h5 h6 h7 h8
  subst h0 h1 h2 h3 h4 h5 h6 h7 h8
  rfl
theorem same_self (x : S23) : sameP x x = true := by simp [sameP]
/-- What a saying must be. -/
theorem decl_ok {d : Int} {b : S23} (h : declE d b = 0) : d ≤ 255 ∧ b = overN z23 d b 8 ∧ mayAll b = true := by
  unfold declE at h
  by_cases h1 : 255 < d
  · rw [if_pos h1] at h; cases h
  · rw [if_neg h1] at h
    by_cases h2 : sameP (overN z23 d b 8) b = true
    · rw [if_pos h2] at h
      by_cases h3 : mayAll b = true
      · exact ⟨by omega, (same_eq h2).symm, h3⟩
      · rw [if_neg h3] at h; cases h
    · rw [if_neg h2] at h; cases h
theorem ext23 {x y : S23} (h0 : x.f0 = y.f0) (h1 : x.f1 = y.f1) (h2 : x.f2 = y.f2) (h3 : x.f3 = y.f3) (h4 : x.f4 = y.f4) (h5 : x.f5 = y.f5) (h6 : x.f6 = y.f6) (h7 : x.f7 = y.f7) (h8 : x.f8 = y.f8) : x = y := by
  cases x; cases y
  simp only at h0 h1 h2 h3 h4 h5 h6 h7 h8
  subst h0 h1 h2 h3 h4 h5 h6 h7 h8
  rfl

theorem unsaid0 {d : Int} {b : S23} (h : declE d b = 0) (hs : ¬ hasP d 0) : b.f0 = 0 := by
  have := (decl_ok h).2.1
  rw [this, over_f0, if_neg hs]
  rfl
theorem unsaid1 {d : Int} {b : S23} (h : declE d b = 0) (hs : ¬ hasP d 1) : b.f1 = 0 := by
  have := (decl_ok h).2.1
  rw [this, over_f1, if_neg hs]
  rfl
theorem unsaid2 {d : Int} {b : S23} (h : declE d b = 0) (hs : ¬ hasP d 2) : b.f2 = 0 := by
  have := (decl_ok h).2.1
  rw [this, over_f2, if_neg hs]
  rfl
theorem unsaid3 {d : Int} {b : S23} (h : declE d b = 0) (hs : ¬ hasP d 3) : b.f3 = 0 := by
  have := (decl_ok h).2.1
  rw [this, over_f3, if_neg hs]
  rfl
theorem unsaid4 {d : Int} {b : S23} (h : declE d b = 0) (hs : ¬ hasP d 4) : b.f4 = 0 := by
  have := (decl_ok h).2.1
  rw [this, over_f4, if_neg hs]
  rfl
theorem unsaid5 {d : Int} {b : S23} (h : declE d b = 0) (hs : ¬ hasP d 5) : b.f5 = 0 := by
  have := (decl_ok h).2.1
  rw [this, over_f5, if_neg hs]
  rfl
theorem unsaid6 {d : Int} {b : S23} (h : declE d b = 0) (hs : ¬ hasP d 6) : b.f6 = 0 := by
  have := (decl_ok h).2.1
  rw [this, over_f6, if_neg hs]
  rfl
theorem unsaid7 {d : Int} {b : S23} (h : declE d b = 0) (hs : ¬ hasP d 7) : b.f7 = 0 := by
  have := (decl_ok h).2.1
  rw [this, over_f7, if_neg hs]
  rfl
theorem unsaid8 {d : Int} {b : S23} (h : declE d b = 0) (hs : ¬ hasP d 7) : b.f8 = 0 := by
  have := (decl_ok h).2.1
  rw [this, over_f8, if_neg hs]
  rfl
theorem mS_over {da : Int} {a : S23} {db : Int} {b : S23} (h : declE da a = 0) : mS da a db b 8 = overN a db b 8 := by
  apply ext23
  · rw [mS_f0, over_f0]
    by_cases h1 : hasP db 0
    · rw [if_pos h1, if_pos h1]
    · rw [if_neg h1, if_neg h1]
      by_cases h2 : hasP da 0
      · rw [if_pos h2]
      · rw [if_neg h2, unsaid0 h h2]
  · rw [mS_f1, over_f1]
    by_cases h1 : hasP db 1
    · rw [if_pos h1, if_pos h1]
    · rw [if_neg h1, if_neg h1]
      by_cases h2 : hasP da 1
      · rw [if_pos h2]
      · rw [if_neg h2, unsaid1 h h2]
  · rw [mS_f2, over_f2]
    by_cases h1 : hasP db 2
    · rw [if_pos h1, if_pos h1]
    · rw [if_neg h1, if_neg h1]
      by_cases h2 : hasP da 2
      · rw [if_pos h2]
      · rw [if_neg h2, unsaid2 h h2]
  · rw [mS_f3, over_f3]
    by_cases h1 : hasP db 3
    · rw [if_pos h1, if_pos h1]
    · rw [if_neg h1, if_neg h1]
      by_cases h2 : hasP da 3
      · rw [if_pos h2]
      · rw [if_neg h2, unsaid3 h h2]
  · rw [mS_f4, over_f4]
    by_cases h1 : hasP db 4
    · rw [if_pos h1, if_pos h1]
    · rw [if_neg h1, if_neg h1]
      by_cases h2 : hasP da 4
      · rw [if_pos h2]
      · rw [if_neg h2, unsaid4 h h2]
  · rw [mS_f5, over_f5]
    by_cases h1 : hasP db 5
    · rw [if_pos h1, if_pos h1]
    · rw [if_neg h1, if_neg h1]
      by_cases h2 : hasP da 5
      · rw [if_pos h2]
      · rw [if_neg h2, unsaid5 h h2]
  · rw [mS_f6, over_f6]
    by_cases h1 : hasP db 6
    · rw [if_pos h1, if_pos h1]
    · rw [if_neg h1, if_neg h1]
      by_cases h2 : hasP da 6
      · rw [if_pos h2]
      · rw [if_neg h2, unsaid6 h h2]
  · rw [mS_f7, over_f7]
    by_cases h1 : hasP db 7
    · rw [if_pos h1, if_pos h1]
    · rw [if_neg h1, if_neg h1]
      by_cases h2 : hasP da 7
      · rw [if_pos h2]
      · rw [if_neg h2, unsaid7 h h2]
  · rw [mS_f8, over_f8]
    by_cases h1 : hasP db 7
    · rw [if_pos h1, if_pos h1]
    · rw [if_neg h1, if_neg h1]
      by_cases h2 : hasP da 7
      · rw [if_pos h2]
      · rw [if_neg h2, unsaid8 h h2]
theorem refMerge {da : Int} (ha0 : 0 ≤ da) (ha1 : da < 65536) (a : S23) {db : Int} (hb0 : 0 ≤ db) (hb1 : db < 65536) (b : S23) : Ev (fun k => stickfulref06_Merge.f k da a.f0 a.f1 a.f2 a.f3 a.f4 a.f5 a.f6 a.f7 a.f8 db b.f0 b.f1 b.f2 b.f3 b.f4 b.f5 b.f6 b.f7 b.f8) (merX da a db b) := by
  unfold merX
  by_cases h : declE da a = 0
  · by_cases h2 : declE db b = 0
    · rw [if_pos ⟨h, h2⟩]
      obtain ⟨n, rfl⟩ := Int.eq_ofNat_of_zero_le ha0
      obtain ⟨m, rfl⟩ := Int.eq_ofNat_of_zero_le hb0
      have hn := (decl_ok h).1
      have hm := (decl_ok h2).1
      have e := merge_l0 (n := n) (m := m) (by omega) (by omega) a b 8 0 (by omega)
      rw [mB_all (by omega) (by omega), mS_over h] at e
      rw [bits_or16 n m (by omega) (by omega)]
      refine Ev.bind (refDecl ha0 ha1 a) ?_
      refine Ev.congr (fun k => if_pos h) (Ev.bind (refDecl hb0 hb1 b) ?_)
      rw [h2]
      refine Ev.step (fun k => ?_) e
      simp only [stickfulref06_Merge.j0]
      rw [if_neg (by decide)]
      rfl
    · rw [if_neg (fun hc => h2 hc.2)]
      refine Ev.bind (refDecl ha0 ha1 a) ?_
      refine Ev.congr (fun k => if_pos h) (Ev.bind (refDecl hb0 hb1 b) ?_)
      have e : (declE db b != 0) = true := bne_iff_ne.2 h2
      rw [e]
      exact Ev.step (f := fun _ => some (0, 0, 0, 0, 0, 0, 0, 0, 0, 0, 60)) (fun k => by simp [stickfulref06_Merge.j0]) (Ev.now _)
  · rw [if_neg (fun hc => h hc.1)]
    refine Ev.bind (refDecl ha0 ha1 a) ?_
    refine Ev.congr (fun k => if_neg h) ?_
    exact Ev.step (f := fun _ => some (0, 0, 0, 0, 0, 0, 0, 0, 0, 0, 60)) (fun k => by simp [stickfulref06_Merge.j0]) (Ev.now _)
theorem head_ev : Ev (fun k => stickfullaw06_head.f k) true := Ev.of stickfullaw06_head.mono (k := 100) (by kernel_rfl)
theorem head_ev2 : Ev (fun k => (stickfullaw06_head.f k).bind fun t => some t) true := Ev.bind head_ev (Ev.now true)

end Go.Proofs.Ytahpkfmgeifenaa.Pure
