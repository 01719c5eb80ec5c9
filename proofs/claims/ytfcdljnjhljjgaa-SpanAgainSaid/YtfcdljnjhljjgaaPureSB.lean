-- chapter 20: what the laws share.
import Derived.Test.YtfcdljnjhljjgaaPureSA
import Derived.Test.YtfcdljnjhljjgaaHSpanx8
namespace Go.Proofs.Ytfcdljnjhljjgaa.PureF
set_option linter.unusedVariables false
set_option linter.unusedSimpArgs false
open Go.RowKit Go.Proofs.YtfcdljnjhljjgaaW.PrintWords Go.Proofs.YtfcdljnjhljjgaaW.PrintLast Go.Proofs.YtfcdljnjhljjgaaW.PrintMore Go.Proofs.Ytfcdljnjhljjgaa.Hand Go.Proofs.Ytfcdljnjhljjgaa.HSpan
theorem head_ev : Ev (fun k => stickfullaw20_head.f k) true := Ev.of (fun k => stickfullaw20_head.mono k) (k := 100) (by kernel_rfl)
theorem head_ev2 : Ev (fun k => (stickfullaw20_head.f k).bind fun t => some t) true := Ev.bind head_ev (Ev.now true)
theorem same_l0 (l : List Int) (hlen : l.length ≤ 1000) : ∀ (r i : Nat), i + r = l.length → Ev (fun k => stickfulref20_Same.l0 k l l (i : Int)) true := by
  intro r
  induction r with
  | zero =>
    intro i hi
    refine Ev.step (f := fun _ => some true) (fun k => ?_) (Ev.now _)
    simp only [stickfulref20_Same.l0]
    rw [if_neg (by omega)]
  | succ r ih =>
    intro i hi
    refine Ev.step (fun k => ?_) (ih (i + 1) (by omega))
    simp only [stickfulref20_Same.l0]
    rw [if_pos (by omega), if_pos (by omega), if_pos (by omega), if_pos trivial, w1 (by omega)]
theorem same_ev (l : List Int) (hlen : l.length ≤ 1000) : Ev (fun k => stickfulref20_Same.f k l l) true := by
  unfold stickfulref20_Same.f
  refine Ev.congr (fun k => if_pos rfl) (same_l0 l hlen l.length 0 (by omega))
theorem line_or (a0 a1 : Int) (l : List S35) (hlen : l.length ≤ 1000) : span_Line.f a0 a1 l = some (0, 0, [], 2) ∨ (Fine a0 a1 l ∧ span_Line.f a0 a1 l = some ((lineS a0 a1 l).1, (lineS a0 a1 l).2, l.map (outP (lineS a0 a1 l)), 0)) := by
  unfold span_Line.f
  by_cases h : (l.length : Int) > 65536 ∨ farL a0 a1 = true ∨ l.any farP = true
  · rw [if_pos h]
    exact .inl rfl
  · rw [if_neg h]
    refine .inr ⟨fine_of ?_ ?_, rfl⟩
    · cases hq : farL a0 a1 with
      | false => rfl
      | true => exact absurd (.inr (.inl hq)) h
    · cases hq : l.any farP with
      | false => rfl
      | true => exact absurd (.inr (.inr hq)) h
theorem big_sum {b : Int × Int} (h1 : big b.1) (h2 : big b.2) : wrap64 (b.1 + b.2) = b.1 + b.2 := by
  unfold big at h1 h2
  exact ws (by omega) (by omega)
theorem again {a0 a1 : Int} {l : List S35} (h : Fine a0 a1 l) (h2 : Fine (lineS a0 a1 l).1 (lineS a0 a1 l).2 l) : lineS (lineS a0 a1 l).1 (lineS a0 a1 l).2 l = lineS a0 a1 l := by
  obtain ⟨u, hu, u1, u2, u3, u4, u5, u6, u7, u8, u9, _, _, u12, _⟩ := line_spec h
  generalize lineS a0 a1 l = b at h2 u8 u9 u12 ⊢
  obtain ⟨v, hv, v1, v2, v3, v4, v5, v6, v7, _⟩ := line_spec h2
  have e1 : v.1 = b.1 := by
    rcases v6 with e | ⟨x, hx, hf, e⟩
    · exact e
    · have := (u5 x hx hf).1; omega
  have e2 : v.2 = b.2 := by
    rcases v7 with e | ⟨x, hx, hf, e⟩
    · exact e
    · have := (u5 x hx hf).2; omega
  have e : v = b := Prod.ext e1 e2
  rw [line_eq h2, hv, e]
  cases ht : topE l with
  | none => rfl
  | some x =>
    obtain ⟨t1, t2, _, _⟩ := topE_some ht
    exact hangZ_same (u12 x t1 t2)
/-- More parts: no less room. -/
theorem more_free {a0 a1 : Int} {l l2 : List S35} (h : Fine a0 a1 l) (h2 : Fine a0 a1 l2) (hs : ∀ x ∈ l, x ∈ l2) : (freeU a0 a1 l).1 ≤ (freeU a0 a1 l2).1 ∧ (freeU a0 a1 l).2 ≤ (freeU a0 a1 l2).2 := by
  obtain ⟨u, rfl, _, _, u3, u4, u5, u6, u7, _⟩ := line_spec h
  obtain ⟨v, rfl, _, _, v3, v4, v5, v6, v7, _⟩ := line_spec h2
  constructor
  · rcases u6 with e | ⟨x, hx, hf, e⟩
    · omega
    · have := (v5 x (hs x hx) hf).1; omega
  · rcases u7 with e | ⟨x, hx, hf, e⟩
    · omega
    · have := (v5 x (hs x hx) hf).2; omega
theorem more_high {a0 a1 : Int} {l l2 : List S35} (h : Fine a0 a1 l) (h2 : Fine a0 a1 l2) (hs : ∀ x ∈ l, x ∈ l2) : (lineS a0 a1 l).1 + (lineS a0 a1 l).2 ≤ (lineS a0 a1 l2).1 + (lineS a0 a1 l2).2 := by
  have hm := more_free h h2 hs
  obtain ⟨u, hu, _, _, _, _, _, _, _, _, _, _, _, _, u13⟩ := line_spec h
  obtain ⟨v, hv, _, _, _, _, _, _, _, v8, v9, _, _, v12, _⟩ := line_spec h2
  rw [hu, hv] at hm
  rcases u13 with e | ⟨x, hx, hf, e⟩
  · rw [e]; omega
  · have := v12 x (hs x hx) hf; omega
theorem all_free {a0 a1 : Int} {l : List S35} (h : Fine a0 a1 l) (hf : ∀ x ∈ l, freeB x = true) : lineS a0 a1 l = freeU a0 a1 l := by
  rw [line_eq h]
  cases ht : topE l with
  | none => rfl
  | some x => obtain ⟨t1, t2, _, _⟩ := topE_some ht; rw [hf x t1] at t2; cases t2
theorem rdp (l : List S35) {i : Nat} (hi : i < l.length) : rd_T35 l (i : Int) = l[i] := by
  unfold rd_T35
  simp [List.getD, hi]
theorem rdi (l : List Int) {i : Nat} (hi : i < l.length) : rd l (i : Int) = l[i] := by unfold rd; simp [List.getD, hi]
end Go.Proofs.Ytfcdljnjhljjgaa.PureF
