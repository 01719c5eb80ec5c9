/- Plain laws of chapter 13: pens one after the other, cut anywhere; the laws' own helpers. No condition of its own. -/
import Derived.Test.YtkegnlidlabjeaaPureTb
import Derived.Test.YtkegnlidlabjeaaSayTrim
import Derived.Test.YtkegnlidlabjeaaHTrimx11
namespace Go.Proofs.Ytkegnlidlabjeaa.Pure
open Go.RowKit Go.Proofs.YtkegnlidlabjeaaW.PrintWords Go.Proofs.YtkegnlidlabjeaaW.PrintLast Go.Proofs.YtkegnlidlabjeaaW.PrintMore Go.Proofs.Ytkegnlidlabjeaa.Hand Go.Proofs.Ytkegnlidlabjeaa.HTrim
theorem i64_of {n : Int} (h : (Lit.int .i64 n).wf = true) : in64 n := by
  have h2 : IntKind.i64.min ≤ n ∧ n ≤ IntKind.i64.max := by simpa [Lit.wf] using h
  have e1 : IntKind.i64.min = -9223372036854775808 := rfl
  have e2 : IntKind.i64.max = 9223372036854775807 := rfl
  unfold in64
  omega
theorem u8_of {n : Int} (h : (Lit.int .u8 n).wf = true) : 0 ≤ n ∧ n ≤ 255 := by
  have h2 : IntKind.u8.min ≤ n ∧ n ≤ IntKind.u8.max := by simpa [Lit.wf] using h
  have e1 : IntKind.u8.min = 0 := rfl
  have e2 : IntKind.u8.max = 255 := rfl
  omega
theorem okC_of {c : S35} (h : W35 c) : okC c := i64_of h.2.2.2.1
theorem head_ev : Ev (fun k => stickfullaw13_head.f k) true := Ev.of (fun k => stickfullaw13_head.mono k) (k := 100) (by kernel_rfl)
theorem head_ev2 : Ev (fun k => (stickfullaw13_head.f k).bind fun t => some t) true := Ev.bind head_ev (Ev.now true)
theorem w1 {n : Nat} (h : n ≤ 1000000000) : wrap64 ((n : Int) + 1) = ((n + 1 : Nat) : Int) := by rw [ws (by omega) (by omega)]; rfl
theorem same_l0 (l : List Int) (hl : l.length ≤ 100000) : ∀ (r i : Nat), i + r = l.length → Ev (fun k => stickfulref13_Same.l0 k l l (i : Int)) true := by
  intro r
  induction r with
  | zero =>
    intro i hi
    refine Ev.step (f := fun _ => some true) (fun k => ?_) (Ev.now _)
    simp only [stickfulref13_Same.l0]
    rw [if_neg (by omega)]
  | succ r ih =>
    intro i hi
    refine Ev.step (fun k => ?_) (ih (i + 1) (by omega))
    simp only [stickfulref13_Same.l0]
    rw [if_pos (by omega), if_pos (by omega), if_pos (by omega), if_pos trivial, w1 (by omega)]
theorem same_ev (l : List Int) (hl : l.length ≤ 100000) : Ev (fun k => stickfulref13_Same.f k l l) true := by
  refine Ev.congr (fun k => ?_) (same_l0 l hl l.length 0 (by omega))
  unfold stickfulref13_Same.f
  rw [if_pos rfl]
  rfl
/-- The pens behind cells, none of which is taken out. -/
def walk0 : List S35 → Int → Option (List Int)
  | [], _ => some []
  | c :: l, x => (nxt c x).bind fun y => (walk0 l y).map (y :: ·)
theorem walk_nil : ∀ (l : List S35) (i : Nat) (x : Int), walk [] l i x = walk0 l x
  | [], _, _ => rfl
  | c :: l, i, x => by
    have e : nxtR (roleAt [] i) c x = nxt c x := by
      unfold nxtR roleAt
      rw [if_neg (by simp; split <;> omega)]
    simp only [walk, walk0]
    rw [e]
    congr 1
    funext y
    rw [walk_nil l (i + 1) y]
def lastD : Int → List Int → Int
  | x, [] => x
  | _, y :: ys => lastD y ys
theorem rd_last : ∀ (x : Int) (ys : List Int), rd (x :: ys) ((ys.length : Nat) : Int) = lastD x ys
  | x, [] => rfl
  | x, y :: ys => by
    rw [lastD, ← rd_last y ys]
    unfold rd
    simp [List.getD]
theorem walk0_len : ∀ {l : List S35} {x : Int} {ys : List Int}, walk0 l x = some ys → ys.length = l.length
  | [], x, ys, h => by simp only [walk0, Option.some.injEq] at h; rw [← h]; rfl
  | c :: l, x, ys, h => by
    simp only [walk0] at h
    obtain ⟨y, _, h2⟩ := Option.bind_eq_some_iff.1 h
    obtain ⟨zs, h3, h4⟩ := Option.map_eq_some_iff.1 h2
    rw [← h4]
    simp [walk0_len h3]
theorem walk0_append : ∀ (l1 l2 : List S35) (x : Int), walk0 (l1 ++ l2) x = (walk0 l1 x).bind fun ys => (walk0 l2 (lastD x ys)).map (ys ++ ·)
  | [], l2, x => by simp [walk0, lastD]
  | c :: l1, l2, x => by
    simp only [List.cons_append, walk0]
    cases hn : nxt c x with
    | none => rfl
    | some y =>
      simp only [Option.bind_some]
      rw [walk0_append l1 l2 y]
      cases hw : walk0 l1 y with
      | none => rfl
      | some ys =>
        simp only [Option.bind_some, Option.map_some, lastD]
        cases walk0 l2 (lastD y ys) <;> rfl
theorem walk0_fits : ∀ {l : List S35} {x : Int} {ys : List Int}, fits x → walk0 l x = some ys → fits (lastD x ys) ∧ ∀ y ∈ ys, fits y
  | [], x, ys, hx, h => by simp only [walk0, Option.some.injEq] at h; rw [← h]; exact ⟨hx, by simp⟩
  | c :: l, x, ys, hx, h => by
    simp only [walk0] at h
    obtain ⟨y, h1, h2⟩ := Option.bind_eq_some_iff.1 h
    obtain ⟨zs, h3, h4⟩ := Option.map_eq_some_iff.1 h2
    have hy := nxt_fits hx h1
    obtain ⟨g1, g2⟩ := walk0_fits hy h3
    rw [← h4]
    exact ⟨g1, fun z hz => by
      rcases List.mem_cons.1 hz with rfl | hz
      · exact hy
      · exact g2 z hz⟩
/-- What Pens tells: an error and no pens, or all pens. -/
theorem pensR_or (rs : List Int) (l : List S35) (x : Int) :
    (∃ e, e ≠ 0 ∧ (e = 2 ∨ e = 10) ∧ pensR rs l x = ([], e)) ∨ (∃ ys, pensR rs l x = (x :: ys, 0) ∧ walk rs l 0 x = some ys ∧ fits x ∧ l.any badTab = false) := by
  unfold pensR
  by_cases hb : l.any badTab = true
  · rw [if_pos hb]; exact .inl ⟨2, by decide, .inl rfl, rfl⟩
  · rw [if_neg hb]
    by_cases hf : fits x
    · rw [if_pos hf]
      cases walk rs l 0 x with
      | none => exact .inl ⟨10, by decide, .inr rfl, rfl⟩
      | some ys => exact .inr ⟨ys, rfl, rfl, hf, by simpa using hb⟩
    · rw [if_neg hf]; exact .inl ⟨10, by decide, .inr rfl, rfl⟩
theorem pensR_some {rs : List Int} {l : List S35} {x : Int} {ys : List Int} (hw : walk rs l 0 x = some ys) (hf : fits x) (hb : l.any badTab = false) : pensR rs l x = (x :: ys, 0) := by
  unfold pensR
  rw [hb, if_neg (by decide), if_pos hf, hw]
end Go.Proofs.Ytkegnlidlabjeaa.Pure
