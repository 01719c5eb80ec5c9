/- A style by two sayings is that by both, merged; merging does not hang on where one begins; what says nothing changes nothing: the plain law. No condition of its own. -/
import Derived.Test.YtahpkfmgeifenaaPureSt2
import Derived.Test.YtahpkfmgeifenaaSayStyleMerges
namespace Go.Proofs.Ytahpkfmgeifenaa.Pure
set_option linter.unusedVariables false
open Go.RowKit Go.Proofs.YtahpkfmgeifenaaW.PrintWords Go.Proofs.YtahpkfmgeifenaaW.PrintLast Go.Proofs.YtahpkfmgeifenaaW.PrintMore Go.Proofs.Ytahpkfmgeifenaa.Hand Go.Proofs.Ytahpkfmgeifenaa.HStyle
theorem u16_of {n : Int} (h : (Lit.int .u16 n).wf = true) : 0 ≤ n ∧ n < 65536 := by
  have h2 : IntKind.u16.min ≤ n ∧ n ≤ IntKind.u16.max := by simpa [Lit.wf] using h
  have e1 : IntKind.u16.min = 0 := rfl
  have e2 : IntKind.u16.max = 65535 := rfl
  omega
theorem may_over {s : S23} {d : Int} {b : S23} (hs : mayAll s = true) (hb : mayAll b = true) : mayAll (overN s d b 8) = true := by
  rw [mayAll_iff] at hs hb ⊢
  unfold okS at hs hb ⊢
  refine ⟨?_, ?_, ?_, ?_, ?_, ?_, ?_, ?_, ?_, ?_, ?_, ?_, ?_⟩
  all_goals first | (rw [over_f0]; split <;> omega) | (rw [over_f1]; split <;> omega) | (rw [over_f2]; split <;> omega) | (rw [over_f3]; split <;> omega) | (rw [over_f4]; split <;> omega) | (rw [over_f5]; split <;> omega) | (rw [over_f6]; split <;> omega) | (rw [over_f7]; split <;> omega) | (rw [over_f8]; split <;> omega)
def orD (da db : Int) : Int := Go.bits .or .u16 da db
theorem orD_nat {n m : Nat} (hn : n < 65536) (hm : m < 65536) : orD (n : Int) (m : Int) = ((n ||| m : Nat) : Int) := bits_or16 n m hn hm
theorem or_lt {n m : Nat} (hn : n < 256) (hm : m < 256) : n ||| m < 256 := Nat.or_lt_two_pow (n := 8) hn hm
theorem has_or {da db : Int} (ha : 0 ≤ da ∧ da < 256) (hb : 0 ≤ db ∧ db < 256) {j : Nat} (hj : j < 8) : hasP (orD da db) j ↔ hasP da j ∨ hasP db j := by
  obtain ⟨n, rfl⟩ := Int.eq_ofNat_of_zero_le ha.1
  obtain ⟨m, rfl⟩ := Int.eq_ofNat_of_zero_le hb.1
  have h1 : n < 256 := by omega
  have h2 : m < 256 := by omega
  have h3 := or_lt h1 h2
  rw [orD_nat (by omega) (by omega), hasP_iff (by omega) hj, hasP_iff (by omega) hj, hasP_iff (by omega) hj, Nat.testBit_or, Bool.or_eq_true]
theorem orD_le {da db : Int} (ha : 0 ≤ da ∧ da < 256) (hb : 0 ≤ db ∧ db < 256) : 0 ≤ orD da db ∧ orD da db < 256 := by
  obtain ⟨n, rfl⟩ := Int.eq_ofNat_of_zero_le ha.1
  obtain ⟨m, rfl⟩ := Int.eq_ofNat_of_zero_le hb.1
  have h3 := or_lt (n := n) (m := m) (by omega) (by omega)
  rw [orD_nat (by omega) (by omega)]
  omega
theorem orD_assoc {da db dc : Int} (ha : 0 ≤ da ∧ da < 256) (hb : 0 ≤ db ∧ db < 256) (hc : 0 ≤ dc ∧ dc < 256) : orD (orD da db) dc = orD da (orD db dc) := by
  obtain ⟨n, rfl⟩ := Int.eq_ofNat_of_zero_le ha.1
  obtain ⟨m, rfl⟩ := Int.eq_ofNat_of_zero_le hb.1
  obtain ⟨q, rfl⟩ := Int.eq_ofNat_of_zero_le hc.1
  have h1 := or_lt (n := n) (m := m) (by omega) (by omega)
  have h2 := or_lt (n := m) (m := q) (by omega) (by omega)
  rw [orD_nat (by omega) (by omega), orD_nat (by omega) (by omega), orD_nat (by omega) (by omega), orD_nat (by omega) (by omega), Nat.or_assoc]
theorem orD_zero {da : Int} (ha : 0 ≤ da ∧ da < 256) : orD da 0 = da := by
  obtain ⟨n, rfl⟩ := Int.eq_ofNat_of_zero_le ha.1
  have := orD_nat (n := n) (m := 0) (by omega) (by decide)
  rw [Nat.or_zero] at this
  exact this
theorem has_zero (j : Nat) (hj : j < 8) : ¬ hasP 0 j := by
  have := hasP_iff (n := 0) (by decide) hj
  intro h
  have h2 := this.1 h
  simp at h2
/-- By one saying and then by another is by both merged. -/
theorem over_over (s : S23) {da db : Int} (a b : S23) (ha : 0 ≤ da ∧ da < 256) (hb : 0 ≤ db ∧ db < 256) : overN (overN s da a 8) db b 8 = overN s (orD da db) (overN a db b 8) 8 := by
  apply ext23
  · rw [over_f0, over_f0, over_f0, over_f0]
    by_cases c2 : hasP db 0
    · rw [if_pos c2, if_pos ((has_or ha hb (by omega)).2 (.inr c2)), if_pos c2]
    · rw [if_neg c2, if_neg c2]
      by_cases c1 : hasP da 0
      · rw [if_pos c1, if_pos ((has_or ha hb (by omega)).2 (.inl c1))]
      · rw [if_neg c1, if_neg (fun h => ((has_or ha hb (by omega)).1 h).elim c1 c2)]
  · rw [over_f1, over_f1, over_f1, over_f1]
    by_cases c2 : hasP db 1
    · rw [if_pos c2, if_pos ((has_or ha hb (by omega)).2 (.inr c2)), if_pos c2]
    · rw [if_neg c2, if_neg c2]
      by_cases c1 : hasP da 1
      · rw [if_pos c1, if_pos ((has_or ha hb (by omega)).2 (.inl c1))]
      · rw [if_neg c1, if_neg (fun h => ((has_or ha hb (by omega)).1 h).elim c1 c2)]
  · rw [over_f2, over_f2, over_f2, over_f2]
    by_cases c2 : hasP db 2
    · rw [if_pos c2, if_pos ((has_or ha hb (by omega)).2 (.inr c2)), if_pos c2]
    · rw [if_neg c2, if_neg c2]
      by_cases c1 : hasP da 2
      · rw [if_pos c1, if_pos ((has_or ha hb (by omega)).2 (.inl c1))]
      · rw [if_neg c1, if_neg (fun h => ((has_or ha hb (by omega)).1 h).elim c1 c2)]
  · rw [over_f3, over_f3, over_f3, over_f3]
    by_cases c2 : hasP db 3
    · rw [if_pos c2, if_pos ((has_or ha hb (by omega)).2 (.inr c2)), if_pos c2]
    · rw [if_neg c2, if_neg c2]
      by_cases c1 : hasP da 3
      · rw [if_pos c1, if_pos ((has_or ha hb (by omega)).2 (.inl c1))]
      · rw [if_neg c1, if_neg (fun h => ((has_or ha hb (by omega)).1 h).elim c1 c2)]
  · rw [over_f4, over_f4, over_f4, over_f4]
    by_cases c2 : hasP db 4
    · rw [if_pos c2, if_pos ((has_or ha hb (by omega)).2 (.inr c2)), if_pos c2]
    · rw [if_neg c2, if_neg c2]
      by_cases c1 : hasP da 4
      · rw [if_pos c1, if_pos ((has_or ha hb (by omega)).2 (.inl c1))]
      · rw [if_neg c1, if_neg (fun h => ((has_or ha hb (by omega)).1 h).elim c1 c2)]
  · rw [over_f5, over_f5, over_f5, over_f5]
    by_cases c2 : hasP db 5
    · rw [if_pos c2, if_pos ((has_or ha hb (by omega)).2 (.inr c2)), if_pos c2]
    · rw [if_neg c2, if_neg c2]
      by_cases c1 : hasP da 5
      · rw [if_pos c1, if_pos ((has_or ha hb (by omega)).2 (.inl c1))]
      · rw [if_neg c1, if_neg (fun h => ((has_or ha hb (by omega)).1 h).elim c1 c2)]
  · rw [over_f6, over_f6, over_f6, over_f6]
    by_cases c2 : hasP db 6
    · rw [if_pos c2, if_pos ((has_or ha hb (by omega)).2 (.inr c2)), if_pos c2]
    · rw [if_neg c2, if_neg c2]
      by_cases c1 : hasP da 6
      · rw [if_pos c1, if_pos ((has_or ha hb (by omega)).2 (.inl c1))]
      · rw [if_neg c1, if_neg (fun h => ((has_or ha hb (by omega)).1 h).elim c1 c2)]
  · rw [over_f7, over_f7, over_f7, over_f7]
    by_cases c2 : hasP db 7
    · rw [if_pos c2, if_pos ((has_or ha hb (by omega)).2 (.inr c2)), if_pos c2]
    · rw [if_neg c2, if_neg c2]
      by_cases c1 : hasP da 7
      · rw [if_pos c1, if_pos ((has_or ha hb (by omega)).2 (.inl c1))]
      · rw [if_neg c1, if_neg (fun h => ((has_or ha hb (by omega)).1 h).elim c1 c2)]
  · rw [over_f8, over_f8, over_f8, over_f8]
    by_cases c2 : hasP db 7
    · rw [if_pos c2, if_pos ((has_or ha hb (by omega)).2 (.inr c2)), if_pos c2]
    · rw [if_neg c2, if_neg c2]
      by_cases c1 : hasP da 7
      · rw [if_pos c1, if_pos ((has_or ha hb (by omega)).2 (.inl c1))]
      · rw [if_neg c1, if_neg (fun h => ((has_or ha hb (by omega)).1 h).elim c1 c2)]
theorem over_zero (s b : S23) : overN s 0 b 8 = s := by
  apply ext23
  · rw [over_f0, if_neg (has_zero 0 (by decide))]
  · rw [over_f1, if_neg (has_zero 1 (by decide))]
  · rw [over_f2, if_neg (has_zero 2 (by decide))]
  · rw [over_f3, if_neg (has_zero 3 (by decide))]
  · rw [over_f4, if_neg (has_zero 4 (by decide))]
  · rw [over_f5, if_neg (has_zero 5 (by decide))]
  · rw [over_f6, if_neg (has_zero 6 (by decide))]
  · rw [over_f7, if_neg (has_zero 7 (by decide))]
  · rw [over_f8, if_neg (has_zero 7 (by decide))]
/-- Sayings that may be, merged, may be. -/
theorem decl_mer {da : Int} {a : S23} {db : Int} {b : S23} (ha : 0 ≤ da ∧ da < 256) (hb : 0 ≤ db ∧ db < 256) (h1 : declE da a = 0) (h2 : declE db b = 0) : declE (orD da db) (overN a db b 8) = 0 := by
  obtain ⟨_, e1, m1⟩ := decl_ok h1
  obtain ⟨_, e2, m2⟩ := decl_ok h2
  have hl := orD_le ha hb
  unfold declE
  have hs : overN z23 (orD da db) (overN a db b 8) 8 = overN a db b 8 := by rw [← over_over z23 a b ha hb, ← e1]
  rw [if_neg (by omega), hs, if_pos (same_self _), if_pos (may_over m1 m2)]
theorem decl_zero : declE 0 z23 = 0 := by decide +kernel
theorem mer_good {da : Int} {a : S23} {db : Int} {b : S23} (h1 : declE da a = 0) (h2 : declE db b = 0) : merX da a db b = (orD da db, (overN a db b 8).f0, (overN a db b 8).f1, (overN a db b 8).f2, (overN a db b 8).f3, (overN a db b 8).f4, (overN a db b 8).f5, (overN a db b 8).f6, (overN a db b 8).f7, (overN a db b 8).f8, 0) := if_pos ⟨h1, h2⟩
theorem mer_bad {da : Int} {a : S23} {db : Int} {b : S23} (h : ¬ (declE da a = 0 ∧ declE db b = 0)) : merX da a db b = (0, 0, 0, 0, 0, 0, 0, 0, 0, 0, 60) := if_neg h
theorem res_good {s : S23} {d : Int} {b : S23} (h1 : mayAll s = true) (h2 : declE d b = 0) : resX s d b = ((overN s d b 8).f0, (overN s d b 8).f1, (overN s d b 8).f2, (overN s d b 8).f3, (overN s d b 8).f4, (overN s d b 8).f5, (overN s d b 8).f6, (overN s d b 8).f7, (overN s d b 8).f8, 0) := if_pos ⟨h1, h2⟩
theorem check_eq (s : S23) : style_Check.f s.f0 s.f1 s.f2 s.f3 s.f4 s.f5 s.f6 s.f7 s.f8 = some (if mayAll s = true then 0 else 60) := rfl
theorem j0_true (k : Nat) (y0 y1 y2 y3 y4 y5 y6 y7 y8 y9 y10 y11 y12 y13 y14 y15 y16 y17 y18 y19 y20 y21 y22 y23 y24 y25 y26 y27 y28 y29 y30 y31 y32 y33 y34 y35 y36 y37 y38 y39 y40 y41 y42 y43 y44 y45 y46 y47 y48 y49 y50 y51 y52 y53 y54 y55 y56 y57 y58 : Int) : stickfullaw06_StyleMerges.j0 (k + 1) true y0 y1 y2 y3 y4 y5 y6 y7 y8 y9 y10 y11 y12 y13 y14 y15 y16 y17 y18 y19 y20 y21 y22 y23 y24 y25 y26 y27 y28 y29 y30 y31 y32 y33 y34 y35 y36 y37 y38 y39 y40 y41 y42 y43 y44 y45 y46 y47 y48 y49 y50 y51 y52 y53 y54 y55 y56 y57 y58 = (stickfullaw06_head.f k).bind fun t => some t := by
  simp only [stickfullaw06_StyleMerges.j0]
  rw [if_pos trivial]
theorem StyleMerges : stickfullaw06_StyleMerges.Pure := by
  intro s x hs hx
  obtain ⟨⟨da, a⟩, ⟨db, b⟩, ⟨dc, c⟩⟩ := x
  have ha0 : 0 ≤ da ∧ da < 65536 := u16_of hx.1.1
  have hb0 : 0 ≤ db ∧ db < 65536 := u16_of hx.2.1.1
  have hc0 : 0 ≤ dc ∧ dc < 65536 := u16_of hx.2.2.1
  refine Ev.rounds (r := true) ?_
  show Ev (fun k => stickfullaw06_StyleMerges.f k s.f0 s.f1 s.f2 s.f3 s.f4 s.f5 s.f6 s.f7 s.f8 da a.f0 a.f1 a.f2 a.f3 a.f4 a.f5 a.f6 a.f7 a.f8 db b.f0 b.f1 b.f2 b.f3 b.f4 b.f5 b.f6 b.f7 b.f8 dc c.f0 c.f1 c.f2 c.f3 c.f4 c.f5 c.f6 c.f7 c.f8) true
  unfold stickfullaw06_StyleMerges.f
  refine Ev.bind (a := merX da a db b) (Ev.congr (fun _ => merge_eq da a db b) (Ev.now _)) ?_
  refine Ev.bind (a := merX db b dc c) (Ev.congr (fun _ => merge_eq db b dc c) (Ev.now _)) ?_
  by_cases h1 : declE da a = 0 ∧ declE db b = 0
  · rw [mer_good h1.1 h1.2]
    refine Ev.congr (fun k => if_pos rfl) ?_
    by_cases h2 : declE db b = 0 ∧ declE dc c = 0
    · rw [mer_good h2.1 h2.2]
      refine Ev.congr (fun k => if_pos rfl) ?_
      refine Ev.bind (a := if mayAll s = true then (0 : Int) else 60) (Ev.congr (fun _ => check_eq s) (Ev.now _)) ?_
      by_cases hm : mayAll s = true
      · rw [if_pos hm]
        obtain ⟨la, ea, ma⟩ := decl_ok h1.1
        obtain ⟨lb, eb, mb⟩ := decl_ok h1.2
        obtain ⟨lc, ec, mc⟩ := decl_ok h2.2
        have ha : 0 ≤ da ∧ da < 256 := by omega
        have hb : 0 ≤ db ∧ db < 256 := by omega
        have hc : 0 ≤ dc ∧ dc < 256 := by omega
        have dab := decl_mer ha hb h1.1 h1.2
        have dbc := decl_mer hb hc h2.1 h2.2
        have q1 := mer_good dab h2.2
        have q2 := mer_good h1.1 dbc
        have q3 := res_good hm h1.1
        have q4 := res_good (may_over (d := da) hm ma) h1.2
        have q5 := res_good hm dab
        have q6 := mer_good h1.1 decl_zero
        have q7 := res_good hm decl_zero
        rw [orD_assoc ha hb hc, over_over a b c hb hc] at q1
        rw [over_over s a b ha hb] at q4
        rw [orD_zero ha, over_zero] at q6
        rw [over_zero] at q7
        refine Ev.step (fun k => ?_) head_ev2
        simp only [stickfullaw06_StyleMerges.j0]
        rw [if_neg (by decide)]
        have w1 := merge_eq (orD da db) (overN a db b 8) dc c
        have w2 := merge_eq da a (orD db dc) (overN b dc c 8)
        have w3 := resolve_eq s da a
        have w4 := resolve_eq (overN s da a 8) db b
        have w5 := resolve_eq s (orD da db) (overN a db b 8)
        have w6 := merge_eq da a 0 z23
        have w7 := resolve_eq s 0 z23
        have w8 := check_eq (overN s (orD da db) (overN a db b 8) 8)
        rw [q1] at w1
        rw [q2] at w2
        rw [q3] at w3
        rw [q4] at w4
        rw [q5] at w5
        rw [q6] at w6
        rw [q7] at w7
        rw [if_pos (may_over hm (may_over ma mb))] at w8
        have z : (z23.f0 = 0 ∧ z23.f1 = 0 ∧ z23.f2 = 0 ∧ z23.f3 = 0 ∧ z23.f4 = 0) ∧ z23.f5 = 0 ∧ z23.f6 = 0 ∧ z23.f7 = 0 ∧ z23.f8 = 0 := by decide
        obtain ⟨⟨z0, z1, z2, z3, z4⟩, z5, z6, z7, z8⟩ := z
        rw [z0, z1, z2, z3, z4, z5, z6, z7, z8] at w6 w7
        rw [w1, w2, w3]
        simp only [Option.bind_some]
        rw [w4, w5, w6, w7]
        simp only [Option.bind_some, beq_self_eq_true, Bool.and_self, if_true]
        rw [w8]
        simp only [Option.bind_some, if_true]
      · rw [if_neg hm]
        exact Ev.step (fun k => j0_true k _ _ _ _ _ _ _ _ _ _ _ _ _ _ _ _ _ _ _ _ _ _ _ _ _ _ _ _ _ _ _ _ _ _ _ _ _ _ _ _ _ _ _ _ _ _ _ _ _ _ _ _ _ _ _ _ _ _ _) head_ev2
    · rw [mer_bad h2]
      refine Ev.congr (fun k => if_neg (show ¬ (60 : Int) = 0 by decide)) ?_
      exact Ev.step (fun k => j0_true k _ _ _ _ _ _ _ _ _ _ _ _ _ _ _ _ _ _ _ _ _ _ _ _ _ _ _ _ _ _ _ _ _ _ _ _ _ _ _ _ _ _ _ _ _ _ _ _ _ _ _ _ _ _ _ _ _ _ _) head_ev2
  · rw [mer_bad h1]
    refine Ev.congr (fun k => if_neg (show ¬ (60 : Int) = 0 by decide)) ?_
    exact Ev.step (fun k => j0_true k _ _ _ _ _ _ _ _ _ _ _ _ _ _ _ _ _ _ _ _ _ _ _ _ _ _ _ _ _ _ _ _ _ _ _ _ _ _ _ _ _ _ _ _ _ _ _ _ _ _ _ _ _ _ _ _ _ _ _) head_ev2
end Go.Proofs.Ytahpkfmgeifenaa.Pure
