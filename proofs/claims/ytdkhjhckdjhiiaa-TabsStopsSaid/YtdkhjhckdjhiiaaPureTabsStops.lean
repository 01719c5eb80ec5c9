/- A tab goes on by 1 up to its distance and ends at a multiple of it; one of no distance goes nowhere; without tabs pens that begin further are all as much further: the plain law. No condition of its own. -/
import Derived.Test.YtdkhjhckdjhiiaaPureTb2
import Derived.Test.YtdkhjhckdjhiiaaSayTabsStops
namespace Go.Proofs.Ytdkhjhckdjhiiaa.Pure
set_option linter.unusedVariables false
open Go.RowKit Go.Proofs.YtdkhjhckdjhiiaaW.PrintWords Go.Proofs.YtdkhjhckdjhiiaaW.PrintLast Go.Proofs.YtdkhjhckdjhiiaaW.PrintMore Go.Proofs.Ytdkhjhckdjhiiaa.Hand Go.Proofs.Ytdkhjhckdjhiiaa.HTabs
def near (c : S31) : Prop := -1099511627776 ≤ c.f3 ∧ c.f3 ≤ 1099511627776
/-- One pen behind another: how far, and where. -/
theorem nxt_step {c : S31} {x y : Int} (hn : near c) (hb : badTab c = false) (h : nxt c x = some y) :
    (¬ c.f0 = 4 → y - x = c.f3) ∧ (c.f0 = 4 → (c.f3 = 0 ∧ y - x = 0) ∨ (0 < c.f3 ∧ 1 ≤ y - x ∧ y - x ≤ c.f3 ∧ Int.tmod y c.f3 = 0)) := by
  unfold nxt fitO at h
  by_cases h4 : c.f0 = 4
  · rw [if_pos h4] at h
    refine ⟨fun hc => absurd h4 hc, fun _ => ?_⟩
    by_cases h0 : c.f3 = 0
    · rw [if_pos h0] at h
      simp only [Option.some.injEq] at h
      exact .inl ⟨h0, by omega⟩
    · rw [if_neg h0] at h
      have h3 : ¬ c.f3 < 0 := by
        intro hlt
        unfold badTab at hb
        rw [h4, decide_eq_true hlt] at hb
        cases hb
      have hd : 0 < c.f3 := by omega
      have e1 := Int.emod_nonneg x (show c.f3 ≠ 0 by omega)
      have e2 := Int.emod_lt_of_pos x hd
      have e5 := Int.mul_ediv_add_emod x c.f3
      by_cases hf : fits (x - x % c.f3 + c.f3)
      · rw [if_pos hf] at h
        simp only [Option.some.injEq] at h
        refine .inr ⟨hd, by omega, by omega, ?_⟩
        have hdv : c.f3 ∣ y := ⟨x / c.f3 + 1, by rw [Int.mul_add, Int.mul_one]; omega⟩
        exact Int.tmod_eq_zero_of_dvd hdv
      · rw [if_neg hf] at h; cases h
  · rw [if_neg h4] at h
    refine ⟨fun _ => ?_, fun hc => absurd hc h4⟩
    by_cases hf : fits (x + c.f3)
    · rw [if_pos hf] at h
      simp only [Option.some.injEq] at h
      omega
    · rw [if_neg hf] at h; cases h
theorem nxt_near {c : S31} {x B : Int} (hc : near c) (hb : badTab c = false) (hx : -B ≤ x) (hy : x ≤ B) (hB : B + 1099511627776 ≤ 4611686018427387904) (hB0 : 0 ≤ B) :
    ∃ a, nxt c x = some a ∧ -(B + 1099511627776) ≤ a ∧ a ≤ B + 1099511627776 := by
  obtain ⟨h1, h2⟩ := hc
  unfold nxt
  by_cases h4 : c.f0 = 4
  · rw [if_pos h4]
    have h3 : ¬ c.f3 < 0 := by
      intro h
      unfold badTab at hb
      rw [h4, decide_eq_true h] at hb
      cases hb
    by_cases h0 : c.f3 = 0
    · rw [if_pos h0]
      exact ⟨x, rfl, by omega, by omega⟩
    · rw [if_neg h0]
      have e1 := Int.emod_nonneg x (show c.f3 ≠ 0 by omega)
      have e2 := Int.emod_lt_of_pos x (show 0 < c.f3 by omega)
      unfold fitO
      rw [if_pos (by unfold fits; omega)]
      exact ⟨_, rfl, by omega, by omega⟩
  · rw [if_neg h4]
    unfold fitO
    rw [if_pos (by unfold fits; omega)]
    exact ⟨_, rfl, by omega, by omega⟩
theorem walk_near : ∀ {l : List S31} {x B : Int}, (∀ c ∈ l, near c ∧ badTab c = false) → -B ≤ x → x ≤ B → B + l.length * 1099511627776 ≤ 4611686018427387904 → 0 ≤ B → ∃ ys, walk0 l x = some ys
  | [], x, B, _, _, _, _, _ => ⟨[], rfl⟩
  | c :: l, x, B, hl, hx, hy, hB, hB0 => by
    obtain ⟨hc, hb⟩ := hl c (List.mem_cons_self ..)
    rw [List.length_cons] at hB
    obtain ⟨a, h1, h4, h5⟩ := nxt_near hc hb hx hy (by omega) hB0
    obtain ⟨ys, g1⟩ := walk_near (B := B + 1099511627776) (fun d hd => hl d (List.mem_cons_of_mem _ hd)) (by omega) h5 (by omega) (by omega)
    exact ⟨a :: ys, by simp [walk0, h1, g1]⟩
theorem rd_cons (x : Int) (l : List Int) (i : Nat) : rd (x :: l) ((i + 1 : Nat) : Int) = rd l (i : Int) := by
  unfold rd
  rw [Int.toNat_natCast, Int.toNat_natCast]
  rfl
theorem rdT_cons (x : S31) (l : List S31) (i : Nat) : rd_T31 (x :: l) ((i + 1 : Nat) : Int) = rd_T31 l (i : Int) := by
  unfold rd_T31
  rw [Int.toNat_natCast, Int.toNat_natCast]
  rfl
/-- Each pen is the next one behind that ahead of it. -/
theorem walk_at : ∀ {l : List S31} {x : Int} {ys : List Int} {i : Nat}, walk0 l x = some ys → i < l.length → nxt (rd_T31 l (i : Int)) (rd (x :: ys) (i : Int)) = some (rd (x :: ys) ((i + 1 : Nat) : Int))
  | [], _, _, _, _, h => by simp at h
  | c :: l, x, ys, i, h, hi => by
    simp only [walk0] at h
    obtain ⟨y, h1, h2⟩ := Option.bind_eq_some_iff.1 h
    obtain ⟨zs, h3, rfl⟩ := Option.map_eq_some_iff.1 h2
    cases i with
    | zero => exact h1
    | succ i =>
      have := walk_at (i := i) h3 (by simpa using hi)
      rw [rdT_cons, rd_cons, rd_cons]
      exact this
/-- Without tabs, pens from further on are as much further. -/
theorem walk_more : ∀ {l : List S31} {x m : Int} {ys zs : List Int}, (∀ c ∈ l, ¬ c.f0 = 4) → walk0 l x = some ys → walk0 l (x + m) = some zs → zs = ys.map (· + m)
  | [], x, m, ys, zs, _, h1, h2 => by
    simp only [walk0, Option.some.injEq] at h1 h2
    rw [← h1, ← h2]; rfl
  | c :: l, x, m, ys, zs, hl, h1, h2 => by
    simp only [walk0] at h1 h2
    obtain ⟨y, g1, g2⟩ := Option.bind_eq_some_iff.1 h1
    obtain ⟨ys', g3, rfl⟩ := Option.map_eq_some_iff.1 g2
    obtain ⟨z, k1, k2⟩ := Option.bind_eq_some_iff.1 h2
    obtain ⟨zs', k3, rfl⟩ := Option.map_eq_some_iff.1 k2
    have h4 := hl c (List.mem_cons_self ..)
    unfold nxt fitO at g1 k1
    rw [if_neg h4] at g1 k1
    have e1 : y = x + c.f3 := by
      by_cases hf : fits (x + c.f3)
      · rw [if_pos hf] at g1; simpa using g1.symm
      · rw [if_neg hf] at g1; cases g1
    have e2 : z = x + m + c.f3 := by
      by_cases hf : fits (x + m + c.f3)
      · rw [if_pos hf] at k1; simpa using k1.symm
      · rw [if_neg hf] at k1; cases k1
    have e3 : z = y + m := by omega
    rw [e3] at k3 ⊢
    rw [walk_more (fun d hd => hl d (List.mem_cons_of_mem _ hd)) g3 k3]
    rfl
theorem rd_fits {x : Int} {ys : List Int} (hx : fits x) (h : ∀ y ∈ ys, fits y) {i : Nat} (hi : i < (x :: ys).length) : fits (rd (x :: ys) (i : Int)) := by
  have hm : rd (x :: ys) (i : Int) ∈ x :: ys := by
    unfold rd
    rw [Int.toNat_natCast]
    simp only [List.getD, hi, List.getElem?_eq_getElem, Option.getD_some]
    exact List.getElem_mem hi
  rcases List.mem_cons.1 hm with h1 | h1
  · rw [h1]; exact hx
  · exact h _ h1
theorem stops_l1 (A B : List Int) (m : Int) (some_ : Bool) (hlen : A.length = B.length) (hA : A.length ≤ 1000) (hm : some_ = false → ∀ i : Nat, i < A.length → wrap64 (rd B (i : Int) - rd A (i : Int)) = m) :
    ∀ (r i : Nat), i + r = A.length → Ev (fun k => stickfullaw12_TabsStops.l1 k m A some_ B (i : Int)) true := by
  intro r
  have hfalse : ∀ i : Nat, Ev (fun k => stickfullaw12_TabsStops.j6 k m A some_ B (i : Int) false) true := fun i => by
    refine Ev.step (fun k => ?_) head_ev2
    simp only [stickfullaw12_TabsStops.j6]
    rw [if_neg (by decide)]
  induction r with
  | zero =>
    intro i hi
    refine Ev.step (fun k => ?_) (hfalse i)
    simp only [stickfullaw12_TabsStops.l1]
    rw [if_neg (by omega)]
  | succ r ih =>
    intro i hi
    cases some_ with
    | true =>
      refine Ev.step (fun k => ?_) (hfalse i)
      simp only [stickfullaw12_TabsStops.l1]
      rw [if_pos (by omega)]
      rfl
    | false =>
      refine Ev.step (f := fun k => stickfullaw12_TabsStops.j6 k m A false B (i : Int) true) (fun k => ?_) (Ev.step (fun k => ?_) (ih (i + 1) (by omega)))
      · simp only [stickfullaw12_TabsStops.l1]
        rw [if_pos (by omega)]
        rfl
      · simp only [stickfullaw12_TabsStops.j6]
        rw [if_pos trivial, if_pos (by omega), if_pos (by omega), if_pos (by omega), if_pos (hm rfl i (by omega)), w1 (by omega)]
/-- Is there a tab among the first cells? -/
def tabs (l : List S31) (i : Nat) : Bool := (l.take i).any fun c => c.f0 == 4
theorem tabs_succ {l : List S31} {i : Nat} (h : i < l.length) : tabs l (i + 1) = (tabs l i || (rd_T31 l (i : Int)).f0 == 4) := by
  unfold tabs rd_T31
  rw [List.take_add_one, List.any_append]
  simp [List.getD, h]
section
variable {l : List S31} {x m : Int} {ys : List Int} (hlen : l.length ≤ 200) (hok : ∀ d ∈ l, okC d) (hx1 : -1099511627776 ≤ x) (hx2 : x ≤ 1099511627776) (hm1 : -1099511627776 ≤ m) (hm2 : m ≤ 1099511627776)
  (hw : walk0 l x = some ys) (hb : l.any badTab = false)
include hlen hok hx1 hx2 hm1 hm2 hw hb
theorem stops_end (hnear : ∀ j, j < l.length → near (rd_T31 l (j : Int))) : Ev (fun k => stickfullaw12_TabsStops.l0 k l x m (x :: ys) (tabs l l.length) ((l.length : Nat) : Int)) true := by
  have hbx : ∀ c ∈ l, near c ∧ badTab c = false := fun c hc => ⟨by
    obtain ⟨j, hj, rfl⟩ := List.getElem_of_mem hc
    have := hnear j hj
    unfold rd_T31 at this
    simpa [List.getD, hj] using this, by
    have := List.any_eq_false.1 hb c hc
    simpa using this⟩
  obtain ⟨zs, hz⟩ := walk_near (B := 2199023255552) (x := x + m) hbx (by omega) (by omega) (by omega) (by omega)
  have hyl := walk0_len hw
  have hzl := walk0_len hz
  have e1 : wrap64 (x + m) = x + m := ws (by omega) (by omega)
  refine Ev.step (f := fun k => (tabs_Pens.f l [] (x + m)).bind fun b => if b.2 = 0 then stickfullaw12_TabsStops.j4 k m (x :: ys) (tabs l l.length) b.1 ((b.1.length : Int) != ((x :: ys).length : Int)) else stickfullaw12_TabsStops.j4 k m (x :: ys) (tabs l l.length) b.1 true) (fun k => ?_) ?_
  · simp only [stickfullaw12_TabsStops.l0]
    rw [if_neg (by omega), e1]
  · refine Ev.bind (a := pensR [] l (x + m)) (Ev.congr (fun _ => pens_eq (by omega) hok (by unfold in64; omega)) (Ev.now _)) ?_
    rw [pensR_some (by rw [walk_nil]; exact hz) (by unfold fits; omega) hb]
    refine Ev.congr (fun k => if_pos rfl) ?_
    have e2 : ((((x + m) :: zs).length : Int) != ((x :: ys).length : Int)) = false := by
      rw [bne_eq_false_iff_eq, List.length_cons, List.length_cons, hyl, hzl]
    rw [e2]
    refine Ev.step (fun k => ?_) (stops_l1 (x :: ys) ((x + m) :: zs) m (tabs l l.length) (by simp [hyl, hzl]) (by simp; omega) (fun hs i hi => ?_) (x :: ys).length 0 (by omega))
    · simp only [stickfullaw12_TabsStops.j4]
      rw [if_neg (by decide)]
      rfl
    · have hnt : ∀ c ∈ l, ¬ c.f0 = 4 := fun c hc h4 => by
        unfold tabs at hs
        rw [List.take_length] at hs
        have := List.any_eq_false.1 hs c hc
        rw [h4] at this
        exact this rfl
      have hmap : (x + m) :: zs = (x :: ys).map (· + m) := by rw [walk_more hnt hw hz]; rfl
      have hrd : rd ((x + m) :: zs) (i : Int) = rd (x :: ys) (i : Int) + m := by
        rw [hmap]
        unfold rd
        rw [Int.toNat_natCast, List.getD_eq_getElem?_getD, List.getD_eq_getElem?_getD, List.getElem?_map, List.getElem?_eq_getElem hi]
        rfl
      rw [hrd, show rd (x :: ys) (i : Int) + m - rd (x :: ys) (i : Int) = m by omega]
      exact ws (by omega) (by omega)
theorem stops_l0 : ∀ (r i : Nat), i + r = l.length → (∀ j, j < i → near (rd_T31 l (j : Int))) → Ev (fun k => stickfullaw12_TabsStops.l0 k l x m (x :: ys) (tabs l i) (i : Int)) true := by
  intro r
  have hyl := walk0_len hw
  have hfx : fits x := by unfold fits; omega
  induction r with
  | zero =>
    intro i hi hnear
    obtain rfl : i = l.length := by omega
    exact stops_end hlen hok hx1 hx2 hm1 hm2 hw hb hnear
  | succ r ih =>
    intro i hi hnear
    have hil : i < l.length := by omega
    have hat := walk_at hw hil
    have hf1 := rd_fits (i := i) hfx (walk0_fits hfx hw).2 (by simp; omega)
    have hf2 := rd_fits (i := i + 1) hfx (walk0_fits hfx hw).2 (by simp; omega)
    have hts := tabs_succ hil
    have hbt : badTab (rd_T31 l (i : Int)) = false := by
      have hmem : rd_T31 l (i : Int) ∈ l := by
        unfold rd_T31
        rw [Int.toNat_natCast]
        simp [List.getD, hil]
      have := List.any_eq_false.1 hb _ hmem
      simpa using this
    generalize hc : rd_T31 l (i : Int) = c at *
    generalize ha : rd (x :: ys) (i : Int) = a at *
    generalize ha2 : rd (x :: ys) ((i + 1 : Nat) : Int) = a2 at *
    unfold fits at hf1 hf2
    have hcl : ((x :: ys).length : Int) = (l.length : Int) + 1 := by rw [List.length_cons, hyl]; rfl
    by_cases hn : near c
    · have hs := nxt_step hn hbt hat
      unfold near at hn
      have e3 : wrap64 (a2 - a) = a2 - a := by
        by_cases h4 : c.f0 = 4
        · rcases hs.2 h4 with ⟨_, h⟩ | ⟨_, h1, h2, _⟩
          · exact ws (by omega) (by omega)
          · exact ws (by omega) (by omega)
        · have := hs.1 h4
          exact ws (by omega) (by omega)
      have hnext := ih (i + 1) (by omega) (fun j hj => by
        by_cases hji : j = i
        · subst hji; rw [hc]; exact hn
        · exact hnear j (by omega))
      refine Ev.step (f := fun k => stickfullaw12_TabsStops.j3 k l x m (x :: ys) (tabs l i) (i : Int) c.f3 (a2 - a) false) (fun k => ?_) (Ev.step (fun k => ?_) hnext)
      · simp only [stickfullaw12_TabsStops.l0]
        rw [if_pos (by omega), if_pos (by omega), w1 (by omega), if_pos (by omega), if_pos (by omega), if_pos (by omega), hc, if_neg (by omega), ha, ha2, e3, decide_eq_false (by omega)]
      · simp only [stickfullaw12_TabsStops.j3]
        rw [if_neg (by decide), if_pos (by omega), if_pos (by omega), hc]
        by_cases h4 : c.f0 = 4
        · have ht : tabs l (i + 1) = true := by rw [hts, h4]; simp
          rw [if_pos h4, ht]
          rcases hs.2 h4 with ⟨h0, h⟩ | ⟨hd, h1, h2, h3⟩
          · rw [if_pos h0, if_pos h, if_neg (by omega), w1 (by omega)]
          · rw [if_neg (by omega), if_pos (by omega), if_neg (by omega), if_neg (by omega), w1 (by omega), if_pos (by omega), if_pos (by omega), ha2, if_pos h3]
        · have ht : tabs l (i + 1) = tabs l i := by
            rw [hts, beq_eq_false_iff_ne.2 h4, Bool.or_false]
          rw [if_neg h4, ht, if_pos (hs.1 h4), w1 (by omega)]
    · refine Ev.step (f := fun k => stickfullaw12_TabsStops.j3 k l x m (x :: ys) (tabs l i) (i : Int) c.f3 (wrap64 (a2 - a)) true) (fun k => ?_) (Ev.step (fun k => ?_) head_ev2)
      · simp only [stickfullaw12_TabsStops.l0]
        rw [if_pos (by omega), if_pos (by omega), w1 (by omega), if_pos (by omega), if_pos (by omega), if_pos (by omega), hc, ha, ha2]
        by_cases h1 : c.f3 > 1099511627776
        · rw [if_pos h1]
        · rw [if_neg h1, decide_eq_true (by unfold near at hn; omega)]
      · simp only [stickfullaw12_TabsStops.j3]
        rw [if_pos trivial]
end
theorem TabsStops : stickfullaw12_TabsStops.Pure := by
  intro l x m hl hx hm
  refine Ev.rounds (r := true) ?_
  show Ev (fun k => stickfullaw12_TabsStops.f k l x m) true
  have hok : ∀ d ∈ l, okC d := fun d hd => okC_of (hl.2.2 d hd)
  have htrue : Ev (fun k => stickfullaw12_TabsStops.j0 k l x m true) true := by
    refine Ev.step (fun k => ?_) head_ev2
    simp only [stickfullaw12_TabsStops.j0]
    rw [if_pos trivial]
  unfold stickfullaw12_TabsStops.f
  by_cases h1 : (l.length : Int) > 200
  · exact Ev.congr (fun k => if_pos h1) htrue
  · by_cases h2 : x > 1099511627776
    · exact Ev.congr (fun k => (if_neg h1).trans (if_pos h2)) htrue
    · by_cases h3 : x < -1099511627776
      · exact Ev.congr (fun k => (if_neg h1).trans ((if_neg h2).trans (if_pos h3))) htrue
      · by_cases h4 : m > 1099511627776
        · exact Ev.congr (fun k => (if_neg h1).trans ((if_neg h2).trans ((if_neg h3).trans (if_pos h4)))) htrue
        · refine Ev.congr (fun k => (if_neg h1).trans ((if_neg h2).trans ((if_neg h3).trans (if_neg h4)))) ?_
          by_cases h5 : m < -1099511627776
          · rw [decide_eq_true h5]; exact htrue
          · rw [decide_eq_false h5]
            refine Ev.step (f := fun k => (tabs_Pens.f l [] x).bind fun a => if a.2 = 0 then stickfullaw12_TabsStops.j1 k l x m a.1 a.2 ((a.1.length : Int) != wrap64 ((l.length : Int) + 1)) else stickfullaw12_TabsStops.j1 k l x m a.1 a.2 true) (fun k => ?_) ?_
            · simp only [stickfullaw12_TabsStops.j0]
              rw [if_neg (by decide)]
            · refine Ev.bind (a := pensR [] l x) (Ev.congr (fun _ => pens_eq (by omega) hok (i64_of hx)) (Ev.now _)) ?_
              rcases pensR_or [] l x with ⟨e, he, _, hr⟩ | ⟨ys, hr, hw, hf, hb⟩
              · rw [hr]
                refine Ev.congr (fun k => if_neg he) (Ev.step (fun k => ?_) head_ev2)
                simp only [stickfullaw12_TabsStops.j1]
                rw [if_pos trivial, if_neg he]
              · rw [hr]
                rw [walk_nil] at hw
                refine Ev.congr (fun k => if_pos rfl) ?_
                have e1 : (((x :: ys).length : Int) != wrap64 ((l.length : Int) + 1)) = false := by
                  rw [w1 (by omega), bne_eq_false_iff_eq, List.length_cons, walk0_len hw]
                rw [e1]
                refine Ev.step (fun k => ?_) (stops_l0 (x := x) (m := m) (by omega) hok (by omega) (by omega) (by omega) (by omega) hw hb l.length 0 (by omega) (fun j hj => by omega))
                simp only [stickfullaw12_TabsStops.j1]
                rw [if_neg (by decide)]
                rfl
end Go.Proofs.Ytdkhjhckdjhiiaa.Pure
