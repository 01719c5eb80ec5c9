/- Pens from a greater number on are nowhere less: the plain law. No condition of its own. -/
import Derived.Test.YtdkhjhckdjhiiaaPureTb2
import Derived.Test.YtdkhjhckdjhiiaaSayTabsRise
namespace Go.Proofs.Ytdkhjhckdjhiiaa.Pure
set_option linter.unusedVariables false
open Go.RowKit Go.Proofs.YtdkhjhckdjhiiaaW.PrintWords Go.Proofs.YtdkhjhckdjhiiaaW.PrintLast Go.Proofs.YtdkhjhckdjhiiaaW.PrintMore Go.Proofs.Ytdkhjhckdjhiiaa.Hand Go.Proofs.Ytdkhjhckdjhiiaa.HTabs
def near (c : S31) : Prop := -1099511627776 ≤ c.f3 ∧ c.f3 ≤ 1099511627776
def leL : List Int → List Int → Prop
  | [], [] => True
  | a :: l, b :: m => a ≤ b ∧ leL l m
  | _, _ => False
theorem leL_len : ∀ {l m : List Int}, leL l m → l.length = m.length
  | [], [], _ => rfl
  | a :: l, b :: m, h => by simp [leL_len h.2]
  | [], b :: m, h => h.elim
  | a :: l, [], h => h.elim
theorem leL_rd : ∀ {l m : List Int} {i : Nat}, leL l m → i < l.length → rd l (i : Int) ≤ rd m (i : Int)
  | [], _, _, _, h => by simp at h
  | a :: l, [], _, h, _ => h.elim
  | a :: l, b :: m, 0, h, _ => h.1
  | a :: l, b :: m, i + 1, h, hi => by
    have := leL_rd (i := i) h.2 (by simpa using hi)
    unfold rd at this ⊢
    simpa [List.getD] using this
theorem nxt_rise {c : S31} (hc : near c) (hb : badTab c = false) {x y B : Int} (hxy : x ≤ y) (hx : -B ≤ x) (hy : y ≤ B) (hB : B + 1099511627776 ≤ 4611686018427387904) (hB0 : 0 ≤ B) :
    ∃ a b, nxt c x = some a ∧ nxt c y = some b ∧ a ≤ b ∧ -(B + 1099511627776) ≤ a ∧ b ≤ B + 1099511627776 := by
  obtain ⟨h1, h2⟩ := hc
  unfold nxt
  by_cases h4 : c.f0 = 4
  · rw [if_pos h4, if_pos h4]
    have h3 : ¬ c.f3 < 0 := by
      intro h
      unfold badTab at hb
      rw [h4, decide_eq_true h] at hb
      cases hb
    by_cases h0 : c.f3 = 0
    · rw [if_pos h0, if_pos h0]
      exact ⟨x, y, rfl, rfl, hxy, by omega, by omega⟩
    · rw [if_neg h0, if_neg h0]
      have hd : 0 < c.f3 := by omega
      have e1 := Int.emod_nonneg x (show c.f3 ≠ 0 by omega)
      have e2 := Int.emod_lt_of_pos x hd
      have e3 := Int.emod_nonneg y (show c.f3 ≠ 0 by omega)
      have e4 := Int.emod_lt_of_pos y hd
      have e5 := Int.mul_ediv_add_emod x c.f3
      have e6 := Int.mul_ediv_add_emod y c.f3
      have e7 : c.f3 * (x / c.f3) ≤ c.f3 * (y / c.f3) := Int.mul_le_mul_of_nonneg_left (Int.ediv_le_ediv hd hxy) (by omega)
      unfold fitO
      rw [if_pos (by unfold fits; omega), if_pos (by unfold fits; omega)]
      exact ⟨_, _, rfl, rfl, by omega, by omega, by omega⟩
  · rw [if_neg h4, if_neg h4]
    unfold fitO
    rw [if_pos (by unfold fits; omega), if_pos (by unfold fits; omega)]
    exact ⟨_, _, rfl, rfl, by omega, by omega, by omega⟩
theorem walk_rise : ∀ {l : List S31} {x y B : Int}, (∀ c ∈ l, near c ∧ badTab c = false) → x ≤ y → -B ≤ x → y ≤ B → B + l.length * 1099511627776 ≤ 4611686018427387904 → 0 ≤ B → ∃ ys zs, walk0 l x = some ys ∧ walk0 l y = some zs ∧ leL ys zs
  | [], x, y, B, _, _, _, _, _, _ => ⟨[], [], rfl, rfl, trivial⟩
  | c :: l, x, y, B, hl, hxy, hx, hy, hB, hB0 => by
    obtain ⟨hc, hb⟩ := hl c (List.mem_cons_self ..)
    rw [List.length_cons] at hB
    obtain ⟨a, b, h1, h2, h3, h4, h5⟩ := nxt_rise hc hb hxy hx hy (by omega) hB0
    obtain ⟨ys, zs, g1, g2, g3⟩ := walk_rise (B := B + 1099511627776) (fun d hd => hl d (List.mem_cons_of_mem _ hd)) h3 (by omega) h5 (by omega) (by omega)
    exact ⟨a :: ys, b :: zs, by simp [walk0, h1, g1], by simp [walk0, h2, g2], h3, g3⟩
theorem rise_l1 (A B : List Int) (e : Int) (hAB : leL A B) (hA : A.length ≤ 1000) (he : e = 0 ∨ e = 2) : ∀ (r i : Nat), i + r = A.length → Ev (fun k => stickfullaw12_TabsRise.l1 k A e B (i : Int)) true := by
  intro r
  have hl := leL_len hAB
  induction r with
  | zero =>
    intro i hi
    refine Ev.step (fun k => ?_) head_ev2
    simp only [stickfullaw12_TabsRise.l1]
    rw [if_neg (by omega)]
    rcases he with rfl | rfl
    · rw [if_pos rfl]
    · rw [if_neg (by decide), if_pos rfl]
  | succ r ih =>
    intro i hi
    have hle := leL_rd (i := i) hAB (by omega)
    refine Ev.step (fun k => ?_) (ih (i + 1) (by omega))
    simp only [stickfullaw12_TabsRise.l1]
    rw [if_pos (by omega), if_pos (by omega), if_pos (by omega), if_neg (by omega), w1 (by omega)]
theorem rise_j2 (A B : List Int) (e : Int) (hAB : leL A B) (hA : A.length ≤ 1000) (he : e = 0 ∨ e = 2) : Ev (fun k => stickfullaw12_TabsRise.j2 k A e B ((A.length : Int) != (B.length : Int))) true := by
  have hl : ((A.length : Int) != (B.length : Int)) = false := by rw [leL_len hAB]; simp
  rw [hl]
  refine Ev.step (fun k => ?_) (rise_l1 A B e hAB hA he A.length 0 (by omega))
  simp only [stickfullaw12_TabsRise.j2]
  rw [if_neg (by decide)]
  rfl
theorem mn_le_mx (a b : Int) : mn a b ≤ mx a b := by unfold mn mx; split <;> split <;> omega
theorem rise_l0 {l : List S31} {x y : Int} (hlen : l.length ≤ 200) (hok : ∀ d ∈ l, okC d) (h1 : -1099511627776 ≤ mn x y) (h2 : mx x y ≤ 1099511627776) :
    ∀ (r i : Nat), i + r = l.length → (∀ j, j < i → near (rd_T31 l (j : Int))) → Ev (fun k => stickfullaw12_TabsRise.l0 k l x y (i : Int)) true := by
  intro r
  induction r with
  | zero =>
    intro i hi hnear
    have hxy := mn_le_mx x y
    have hn : ∀ c ∈ l, near c := fun c hc => by
      obtain ⟨j, hj, rfl⟩ := List.getElem_of_mem hc
      have := hnear j (by omega)
      unfold rd_T31 at this
      simpa [List.getD, hj] using this
    refine Ev.step (f := fun k => (tabs_Pens.f l [] (mn x y)).bind fun a => (tabs_Pens.f l [] (mx x y)).bind fun b => if a.2 = b.2 then stickfullaw12_TabsRise.j2 k a.1 a.2 b.1 ((a.1.length : Int) != (b.1.length : Int)) else stickfullaw12_TabsRise.j2 k a.1 a.2 b.1 true) (fun k => ?_) ?_
    · simp only [stickfullaw12_TabsRise.l0]
      rw [if_neg (by omega)]
    · refine Ev.bind (a := pensR [] l (mn x y)) (Ev.congr (fun _ => pens_eq (by omega) hok (by unfold in64; omega)) (Ev.now _)) ?_
      refine Ev.bind (a := pensR [] l (mx x y)) (Ev.congr (fun _ => pens_eq (by omega) hok (by unfold in64; omega)) (Ev.now _)) ?_
      by_cases hb : l.any badTab = true
      · have p : ∀ z, pensR [] l z = ([], 2) := fun z => by unfold pensR; rw [if_pos hb]
        rw [p, p]
        exact Ev.congr (fun k => if_pos rfl) (rise_j2 [] [] 2 trivial (by simp) (.inr rfl))
      · have hb2 : l.any badTab = false := by simpa using hb
        have hnb : ∀ c ∈ l, near c ∧ badTab c = false := fun c hc => ⟨hn c hc, by
          have := List.any_eq_false.1 hb2 c hc
          simpa using this⟩
        obtain ⟨ys, zs, g1, g2, g3⟩ := walk_rise (B := 1099511627776) hnb hxy (by omega) (by omega) (by omega) (by omega)
        rw [pensR_some (by rw [walk_nil]; exact g1) (by unfold fits; omega) hb2, pensR_some (by rw [walk_nil]; exact g2) (by unfold fits; omega) hb2]
        have hl := walk0_len g1
        exact Ev.congr (fun k => if_pos rfl) (rise_j2 (mn x y :: ys) (mx x y :: zs) 0 ⟨hxy, g3⟩ (by simp; omega) (.inl rfl))
  | succ r ih =>
    intro i hi hnear
    by_cases c1 : (rd_T31 l (i : Int)).f3 > 1099511627776
    · refine Ev.step (fun k => ?_) head_ev2
      simp only [stickfullaw12_TabsRise.l0]
      rw [if_pos (by omega), if_pos (by omega), if_pos c1]
    · by_cases c2 : (rd_T31 l (i : Int)).f3 < -1099511627776
      · refine Ev.step (fun k => ?_) head_ev2
        simp only [stickfullaw12_TabsRise.l0]
        rw [if_pos (by omega), if_pos (by omega), if_neg c1, if_pos c2]
      · refine Ev.step (fun k => ?_) (ih (i + 1) (by omega) (fun j hj => by
          by_cases hji : j = i
          · subst hji; unfold near; omega
          · exact hnear j (by omega)))
        simp only [stickfullaw12_TabsRise.l0]
        rw [if_pos (by omega), if_pos (by omega), if_neg c1, if_neg c2, w1 (by omega)]
theorem TabsRise : stickfullaw12_TabsRise.Pure := by
  intro l x y hl hx hy
  refine Ev.rounds (r := true) ?_
  show Ev (fun k => stickfullaw12_TabsRise.f k l x y) true
  have hok : ∀ d ∈ l, okC d := fun d hd => okC_of (hl.2.2 d hd)
  have htrue : Ev (fun k => stickfullaw12_TabsRise.j0 k l x y true) true := by
    refine Ev.step (fun k => ?_) head_ev2
    simp only [stickfullaw12_TabsRise.j0]
    rw [if_pos trivial]
  unfold stickfullaw12_TabsRise.f
  by_cases h1 : (l.length : Int) > 200
  · exact Ev.congr (fun k => if_pos h1) htrue
  · by_cases h2 : mn x y < -1099511627776
    · exact Ev.congr (fun k => (if_neg h1).trans (if_pos h2)) htrue
    · refine Ev.congr (fun k => (if_neg h1).trans (if_neg h2)) ?_
      by_cases h3 : mx x y > 1099511627776
      · rw [decide_eq_true h3]; exact htrue
      · rw [decide_eq_false h3]
        refine Ev.step (fun k => ?_) (rise_l0 (x := x) (y := y) (by omega) hok (by omega) (by omega) l.length 0 (by omega) (fun j hj => by omega))
        simp only [stickfullaw12_TabsRise.j0]
        rw [if_neg (by decide)]
        rfl
end Go.Proofs.Ytdkhjhckdjhiiaa.Pure
