import Derived.Test.YtahpkfmgeifenaaPureSt2
import Derived.Test.YtahpkfmgeifenaaSayStyleApart
namespace Go.Proofs.Ytahpkfmgeifenaa.Pure
open Go.RowKit Go.Proofs.YtahpkfmgeifenaaW.PrintWords Go.Proofs.YtahpkfmgeifenaaW.PrintLast Go.Proofs.YtahpkfmgeifenaaW.PrintMore Go.Proofs.Ytahpkfmgeifenaa.Hand Go.Proofs.Ytahpkfmgeifenaa.HStyle
theorem u16_of {n : Int} (h : (Lit.int .u16 n).wf = true) : 0 ≤ n ∧ n < 65536 := by
  have h2 : IntKind.u16.min ≤ n ∧ n ≤ IntKind.u16.max := by simpa [Lit.wf] using h
  have e1 : IntKind.u16.min = 0 := rfl
  have e2 : IntKind.u16.max = 65535 := rfl
  omega
theorem may_over {s : S23} {d : Int} {b : S23} (hs : mayAll s = true) (hb : mayAll b = true) : mayAll (overN s d b 8) = true := by
  rw [mayAll_iff] at hs hb ⊢
  unfold okS at hs hb ⊢
  refine ⟨?_, ?_, ?_, ?_, ?_, ?_, ?_, ?_, ?_, ?_, ?_, ?_, ?_⟩
  all_goals first | (rw [over_f0]; split <;> omega) | (rw [over_f1]; split <;> omega) | (rw [over_f2]; split <;> omega) | (rw [over_f3]; split <;> omega) | (rw [over_f4]; split <;> omega) | (rw [over_f5]; split <;> omega) | (rw [over_f6]; split <;> omega) | (rw [over_f7]; split <;> omega) | (rw [over_f8]; split <;> omega)
theorem apart_of {da db : Int} (ha : 0 ≤ da ∧ da < 65536) (hb : 0 ≤ db ∧ db < 65536) (h : Go.bits .and .u16 da db = 0) {j : Nat} (hj : j < 8) (h1 : hasP da j) : ¬ hasP db j := by
  obtain ⟨n, rfl⟩ := Int.eq_ofNat_of_zero_le ha.1
  obtain ⟨m, rfl⟩ := Int.eq_ofNat_of_zero_le hb.1
  intro h2
  rw [bits_and16 n m (by omega) (by omega)] at h
  have h3 : n &&& m = 0 := by omega
  have h4 : (n &&& m).testBit j = true := by rw [Nat.testBit_and, (hasP_iff (by omega) hj).1 h1, (hasP_iff (by omega) hj).1 h2]; rfl
  rw [h3] at h4
  simp at h4

theorem style_comm {da : Int} {a : S23} {db : Int} {b : S23} (ha : 0 ≤ da ∧ da < 65536) (hb : 0 ≤ db ∧ db < 65536) (h : Go.bits .and .u16 da db = 0) (h1 : declE da a = 0) (h2 : declE db b = 0) : overN a db b 8 = overN b da a 8 := by
  apply ext23
  · rw [over_f0, over_f0]
    by_cases c : hasP da 0
    · rw [if_neg (apart_of ha hb h (by omega) c), if_pos c]
    · rw [if_neg c]
      by_cases c2 : hasP db 0
      · rw [if_pos c2]
      · rw [if_neg c2, unsaid0 h1 c, unsaid0 h2 c2]
  · rw [over_f1, over_f1]
    by_cases c : hasP da 1
    · rw [if_neg (apart_of ha hb h (by omega) c), if_pos c]
    · rw [if_neg c]
      by_cases c2 : hasP db 1
      · rw [if_pos c2]
      · rw [if_neg c2, unsaid1 h1 c, unsaid1 h2 c2]
  · rw [over_f2, over_f2]
    by_cases c : hasP da 2
    · rw [if_neg (apart_of ha hb h (by omega) c), if_pos c]
    · rw [if_neg c]
      by_cases c2 : hasP db 2
      · rw [if_pos c2]
      · rw [if_neg c2, unsaid2 h1 c, unsaid2 h2 c2]
  · rw [over_f3, over_f3]
    by_cases c : hasP da 3
    · rw [if_neg (apart_of ha hb h (by omega) c), if_pos c]
    · rw [if_neg c]
      by_cases c2 : hasP db 3
      · rw [if_pos c2]
      · rw [if_neg c2, unsaid3 h1 c, unsaid3 h2 c2]
  · rw [over_f4, over_f4]
    by_cases c : hasP da 4
    · rw [if_neg (apart_of ha hb h (by omega) c), if_pos c]
    · rw [if_neg c]
      by_cases c2 : hasP db 4
      · rw [if_pos c2]
      · rw [if_neg c2, unsaid4 h1 c, unsaid4 h2 c2]
  · rw [over_f5, over_f5]
    by_cases c : hasP da 5
    · rw [if_neg (apart_of ha hb h (by omega) c), if_pos c]
    · rw [if_neg c]
      by_cases c2 : hasP db 5
      · rw [if_pos c2]
      · rw [if_neg c2, unsaid5 h1 c, unsaid5 h2 c2]
  · rw [over_f6, over_f6]
    by_cases c : hasP da 6
    · rw [if_neg (apart_of ha hb h (by omega) c), if_pos c]
    · rw [if_neg c]
      by_cases c2 : hasP db 6
      · rw [if_pos c2]
      · rw [if_neg c2, unsaid6 h1 c, unsaid6 h2 c2]
  · rw [over_f7, over_f7]
    by_cases c : hasP da 7
    · rw [if_neg (apart_of ha hb h (by omega) c), if_pos c]
    · rw [if_neg c]
      by_cases c2 : hasP db 7
      · rw [if_pos c2]
      · rw [if_neg c2, unsaid7 h1 c, unsaid7 h2 c2]
  · rw [over_f8, over_f8]
    by_cases c : hasP da 7
    · rw [if_neg (apart_of ha hb h (by omega) c), if_pos c]
    · rw [if_neg c]
      by_cases c2 : hasP db 7
      · rw [if_pos c2]
      · rw [if_neg c2, unsaid8 h1 c, unsaid8 h2 c2]
theorem over_comm {da : Int} {a : S23} {db : Int} {b : S23} (s : S23) (ha : 0 ≤ da ∧ da < 65536) (hb : 0 ≤ db ∧ db < 65536) (h : Go.bits .and .u16 da db = 0) : overN (overN s da a 8) db b 8 = overN (overN s db b 8) da a 8 := by
  apply ext23
  · rw [over_f0, over_f0, over_f0, over_f0]
    by_cases c : hasP da 0
    · rw [if_neg (apart_of ha hb h (by omega) c), if_pos c, if_pos c]
    · rw [if_neg c, if_neg c]
  · rw [over_f1, over_f1, over_f1, over_f1]
    by_cases c : hasP da 1
    · rw [if_neg (apart_of ha hb h (by omega) c), if_pos c, if_pos c]
    · rw [if_neg c, if_neg c]
  · rw [over_f2, over_f2, over_f2, over_f2]
    by_cases c : hasP da 2
    · rw [if_neg (apart_of ha hb h (by omega) c), if_pos c, if_pos c]
    · rw [if_neg c, if_neg c]
  · rw [over_f3, over_f3, over_f3, over_f3]
    by_cases c : hasP da 3
    · rw [if_neg (apart_of ha hb h (by omega) c), if_pos c, if_pos c]
    · rw [if_neg c, if_neg c]
  · rw [over_f4, over_f4, over_f4, over_f4]
    by_cases c : hasP da 4
    · rw [if_neg (apart_of ha hb h (by omega) c), if_pos c, if_pos c]
    · rw [if_neg c, if_neg c]
  · rw [over_f5, over_f5, over_f5, over_f5]
    by_cases c : hasP da 5
    · rw [if_neg (apart_of ha hb h (by omega) c), if_pos c, if_pos c]
    · rw [if_neg c, if_neg c]
  · rw [over_f6, over_f6, over_f6, over_f6]
    by_cases c : hasP da 6
    · rw [if_neg (apart_of ha hb h (by omega) c), if_pos c, if_pos c]
    · rw [if_neg c, if_neg c]
  · rw [over_f7, over_f7, over_f7, over_f7]
    by_cases c : hasP da 7
    · rw [if_neg (apart_of ha hb h (by omega) c), if_pos c, if_pos c]
    · rw [if_neg c, if_neg c]
  · rw [over_f8, over_f8, over_f8, over_f8]
    by_cases c : hasP da 7
    · rw [if_neg (apart_of ha hb h (by omega) c), if_pos c, if_pos c]
    · rw [if_neg c, if_neg c]
theorem or_comm16 {da db : Int} (ha : 0 ≤ da ∧ da < 65536) (hb : 0 ≤ db ∧ db < 65536) : Go.bits .or .u16 da db = Go.bits .or .u16 db da := by
  obtain ⟨n, rfl⟩ := Int.eq_ofNat_of_zero_le ha.1
  obtain ⟨m, rfl⟩ := Int.eq_ofNat_of_zero_le hb.1
  rw [bits_or16 n m (by omega) (by omega), bits_or16 m n (by omega) (by omega), Nat.or_comm]
theorem mer_comm {da : Int} {a : S23} {db : Int} {b : S23} (ha : 0 ≤ da ∧ da < 65536) (hb : 0 ≤ db ∧ db < 65536) (h : Go.bits .and .u16 da db = 0) : merX da a db b = merX db b da a := by
  unfold merX
  by_cases h1 : declE da a = 0
  · by_cases h2 : declE db b = 0
    · rw [if_pos ⟨h1, h2⟩, if_pos ⟨h2, h1⟩, style_comm ha hb h h1 h2, or_comm16 ha hb]
    · rw [if_neg (fun hc => h2 hc.2), if_neg (fun hc => h2 hc.1)]
  · rw [if_neg (fun hc => h1 hc.1), if_neg (fun hc => h1 hc.2)]

theorem res_form (s : S23) (d : Int) (b : S23) : ∃ q : S23, ∃ e : Int, resX s d b = (q.f0, q.f1, q.f2, q.f3, q.f4, q.f5, q.f6, q.f7, q.f8, e) ∧ ((e = 0 ∧ mayAll s = true ∧ declE d b = 0 ∧ q = overN s d b 8) ∨ e = 60) := by
  unfold resX
  by_cases h : mayAll s = true ∧ declE d b = 0
  · exact ⟨overN s d b 8, 0, if_pos h, .inl ⟨rfl, h.1, h.2, rfl⟩⟩
  · exact ⟨z23, 60, if_neg h, .inr rfl⟩
theorem StyleApart : stickfullaw06_StyleApart.Pure := by
  intro s x y hs hx hy
  obtain ⟨da, a⟩ := x
  obtain ⟨db, b⟩ := y
  have ha : 0 ≤ da ∧ da < 65536 := u16_of hx.1
  have hb : 0 ≤ db ∧ db < 65536 := u16_of hy.1
  refine Ev.rounds (r := true) ?_
  show Ev (fun k => stickfullaw06_StyleApart.f k s.f0 s.f1 s.f2 s.f3 s.f4 s.f5 s.f6 s.f7 s.f8 da a.f0 a.f1 a.f2 a.f3 a.f4 a.f5 a.f6 a.f7 a.f8 db b.f0 b.f1 b.f2 b.f3 b.f4 b.f5 b.f6 b.f7 b.f8) true
  unfold stickfullaw06_StyleApart.f
  by_cases hd : Go.bits .and .u16 da db = 0
  · refine Ev.congr (fun k => if_pos hd) ?_
    obtain ⟨p1, e1, hX, hX2⟩ := res_form s da a
    obtain ⟨p2, e2, hY, hY2⟩ := res_form s db b
    refine Ev.bind (a := merX da a db b) (Ev.congr (fun _ => merge_eq da a db b) (Ev.now _)) ?_
    refine Ev.bind (a := merX db b da a) (Ev.congr (fun _ => merge_eq db b da a) (Ev.now _)) ?_
    refine Ev.bind (a := resX s da a) (Ev.congr (fun _ => resolve_eq s da a) (Ev.now _)) ?_
    rw [hX]
    refine Ev.bind (a := resX p1 db b) (Ev.congr (fun _ => resolve_eq p1 db b) (Ev.now _)) ?_
    refine Ev.bind (a := resX s db b) (Ev.congr (fun _ => resolve_eq s db b) (Ev.now _)) ?_
    rw [hY]
    refine Ev.bind (a := resX p2 da a) (Ev.congr (fun _ => resolve_eq p2 da a) (Ev.now _)) ?_
    rw [mer_comm ha hb hd]
    rcases hX2 with ⟨rfl, h1, h2, rfl⟩ | rfl
    · rcases hY2 with ⟨rfl, _, h3, rfl⟩ | rfl
      · have e3 : resX (overN s da a 8) db b = ((overN (overN s da a 8) db b 8).f0, (overN (overN s da a 8) db b 8).f1, (overN (overN s da a 8) db b 8).f2, (overN (overN s da a 8) db b 8).f3, (overN (overN s da a 8) db b 8).f4, (overN (overN s da a 8) db b 8).f5, (overN (overN s da a 8) db b 8).f6, (overN (overN s da a 8) db b 8).f7, (overN (overN s da a 8) db b 8).f8, 0) := if_pos ⟨may_over h1 (decl_ok h2).2.2, h3⟩
        have e4 : resX (overN s db b 8) da a = ((overN (overN s db b 8) da a 8).f0, (overN (overN s db b 8) da a 8).f1, (overN (overN s db b 8) da a 8).f2, (overN (overN s db b 8) da a 8).f3, (overN (overN s db b 8) da a 8).f4, (overN (overN s db b 8) da a 8).f5, (overN (overN s db b 8) da a 8).f6, (overN (overN s db b 8) da a 8).f7, (overN (overN s db b 8) da a 8).f8, 0) := if_pos ⟨may_over h1 (decl_ok h3).2.2, h2⟩
        have e5 : merX db b da a = (Go.bits .or .u16 db da, (overN b da a 8).f0, (overN b da a 8).f1, (overN b da a 8).f2, (overN b da a 8).f3, (overN b da a 8).f4, (overN b da a 8).f5, (overN b da a 8).f6, (overN b da a 8).f7, (overN b da a 8).f8, 0) := if_pos ⟨h3, h2⟩
        rw [e3, e4, e5, over_comm s ha hb hd]
        refine Ev.congr (fun k => if_pos rfl) (Ev.step (fun k => ?_) head_ev2)
        simp [stickfullaw06_StyleApart.j0]
      · refine Ev.congr (fun k => if_pos rfl) (Ev.step (fun k => ?_) head_ev2)
        simp [stickfullaw06_StyleApart.j0]
    · refine Ev.congr (fun k => if_neg (show ¬ (60 : Int) = 0 by decide)) (Ev.step (fun k => ?_) head_ev2)
      simp [stickfullaw06_StyleApart.j0]
  · exact Ev.congr (fun k => if_neg hd) head_ev2
end Go.Proofs.Ytahpkfmgeifenaa.Pure
