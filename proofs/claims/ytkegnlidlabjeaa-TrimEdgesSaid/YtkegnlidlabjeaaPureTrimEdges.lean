/- Edges ahead of a line and behind it change nothing but where it ends: the plain law. No condition of its own. -/
import Derived.Test.YtkegnlidlabjeaaPureSm
import Derived.Test.YtkegnlidlabjeaaSayTrimEdges
namespace Go.Proofs.Ytkegnlidlabjeaa.Pure
set_option linter.unusedVariables false
set_option linter.unusedSimpArgs false
open Go.RowKit Go.Proofs.YtkegnlidlabjeaaW.PrintWords Go.Proofs.YtkegnlidlabjeaaW.PrintLast Go.Proofs.YtkegnlidlabjeaaW.PrintMore Go.Proofs.Ytkegnlidlabjeaa.Hand Go.Proofs.Ytkegnlidlabjeaa.HTrim
def plain (c : S35) : Prop := -1099511627776 ≤ c.f3 ∧ c.f3 ≤ 1099511627776 ∧ c.f0 ≠ 4
def wS : List Int → List S35 → Int
  | r :: rs, c :: l => (if r = 1 then 0 else c.f3) + wS rs l
  | _, _ => 0
def sumF (l : List S35) : Int := (l.map (·.f3)).sum
theorem wS_append : ∀ (r1 r2 : List Int) (l1 l2 : List S35), r1.length = l1.length → wS (r1 ++ r2) (l1 ++ l2) = wS r1 l1 + wS r2 l2
  | [], r2, [], l2, _ => by simp [wS]
  | r :: r1, r2, c :: l1, l2, h => by
    simp only [List.cons_append, wS]
    rw [wS_append r1 r2 l1 l2 (by simpa using h)]
    omega
theorem wS_zero : ∀ (l : List S35), wS (List.replicate l.length 0) l = sumF l
  | [] => rfl
  | c :: l => by
    simp only [List.length_cons, List.replicate_succ, wS]
    rw [wS_zero l]
    simp [sumF]
theorem walk_sum (rs : List Int) : ∀ (l : List S35) (i : Nat) (x B : Int), (∀ c ∈ l, plain c) → -B ≤ x → x ≤ B → 0 ≤ B → B + l.length * 1099511627776 ≤ 4611686018427387904 → rs.length = i + l.length →
    ∃ ys, walk rs l i x = some ys ∧ lastD x ys = x + wS (rs.drop i) l
  | [], i, x, B, _, _, _, _, _, hr => ⟨[], rfl, by
    have e : wS (rs.drop i) [] = 0 := by cases rs.drop i <;> rfl
    rw [e]; simp [lastD]⟩
  | c :: l, i, x, B, hl, h1, h2, h3, h4, hr => by
    rw [List.length_cons] at h4 hr
    obtain ⟨p1, p2, p3⟩ := hl c (List.mem_cons_self ..)
    have ei : roleAt rs i = rs[i]'(by omega) := by unfold roleAt; rw [if_pos (by omega), rd_int rs (by omega)]
    rw [List.drop_eq_getElem_cons (by omega)]
    have key : ∃ y, nxtR (roleAt rs i) c x = some y ∧ y = x + (if rs[i]'(by omega) = 1 then 0 else c.f3) := by
      unfold nxtR
      rw [ei]
      by_cases h : rs[i]'(by omega) = 1
      · rw [if_pos h]; exact ⟨x, rfl, by rw [if_pos h]; omega⟩
      · rw [if_neg h]
        unfold nxt fitO
        rw [if_neg p3, if_pos (by unfold fits; omega)]
        exact ⟨_, rfl, by rw [if_neg h]⟩
    obtain ⟨y, g1, g2⟩ := key
    have hy : -(B + 1099511627776) ≤ y ∧ y ≤ B + 1099511627776 := by
      rw [g2]
      by_cases h : rs[i]'(by omega) = 1
      · rw [if_pos h]; omega
      · rw [if_neg h]; omega
    obtain ⟨ys, k1, k2⟩ := walk_sum rs l (i + 1) y (B + 1099511627776) (fun d hd => hl d (List.mem_cons_of_mem _ hd)) hy.1 hy.2 (by omega) (by omega) (by omega)
    refine ⟨y :: ys, by simp only [walk]; rw [g1, Option.bind_some, k1]; rfl, ?_⟩
    simp only [lastD, wS]
    rw [k2, g2]
    omega
theorem end_sum {rs : List Int} {l : List S35} (hl : ∀ c ∈ l, plain c) (hlen : l.length ≤ 1000) (hr : rs.length = l.length) : endR rs l 0 = (wS rs l, 0) := by
  obtain ⟨ys, g1, g2⟩ := walk_sum rs l 0 0 0 hl (by omega) (by omega) (by omega) (by omega) (by omega)
  have hb : l.any badTab = false := by
    rw [List.any_eq_false]
    intro c hc
    have := (hl c hc).2.2
    unfold badTab
    simp [this]
  unfold endR
  rw [pensR_some g1 (by unfold fits; omega) hb, if_pos rfl]
  show (lastD 0 ys, (0 : Int)) = _
  rw [g2, List.drop_zero]
  simp
theorem role_edge {a : Bool} {c : S35} {s : List S35} (h : edgeB c = true) : roleZ a c s = 0 := by
  have h2 : c.f0 = 7 ∨ c.f0 = 8 ∨ c.f0 = 5 := by unfold edgeB at h; simpa using h
  unfold roleZ
  rw [if_neg (by omega), if_neg (by omega)]
theorem roles_edges : ∀ (a : Bool) (l : List S35), l.all edgeB = true → rolesZ a l = List.replicate l.length 0
  | _, [], _ => rfl
  | a, c :: s, h => by
    rw [List.all_cons, Bool.and_eq_true] at h
    simp only [rolesZ, List.length_cons, List.replicate_succ]
    rw [role_edge h.1, roles_edges _ s h.2]
theorem roles_ahead : ∀ (a : Bool) (l s : List S35), l.all edgeB = true → rolesZ a (l ++ s) = List.replicate l.length 0 ++ rolesZ a s
  | _, [], s, _ => rfl
  | a, c :: l, s, h => by
    rw [List.all_cons, Bool.and_eq_true] at h
    have hb : blankB c = true := by unfold blankB; rw [h.1]; rfl
    simp only [List.cons_append, rolesZ, List.length_cons, List.replicate_succ]
    rw [role_edge h.1, hb, Bool.and_true, roles_ahead a l s h.2]
theorem roles_behind (s : List S35) (h : s.all edgeB = true) : ∀ (a : Bool) (l : List S35), rolesZ a (l ++ s) = rolesZ a l ++ List.replicate s.length 0
  | a, [] => by simp only [List.nil_append, rolesZ]; exact roles_edges a s h
  | a, c :: l => by
    simp only [List.cons_append, rolesZ]
    rw [roles_behind s h]
    congr 1
    have hb := blank_of_edge h
    have hh : s.all hangB = true := by
      rw [List.all_eq_true] at hb ⊢
      intro c hc
      unfold hangB
      rw [hb c hc]
      rfl
    unfold roleZ
    rw [List.all_append, List.all_append, hb, hh, Bool.and_true, Bool.and_true]
theorem edges_l1 (l ahead all : List S35) (s : Int) (z : List Int) (hl : l.length ≤ 150) (ha : ahead.length ≤ 50) (hz : z.length ≤ 50) {F : Nat → Option Bool}
    (hF : ∀ k, stickfullaw13_TrimEdges.l1 (k + 1) l ahead all s (rolesZ true l) (List.replicate ahead.length 0 ++ (rolesZ true l ++ z)) (l.length : Int) = F k) (hE : Ev F true) :
    ∀ (r i : Nat), i + r = l.length → Ev (fun k => stickfullaw13_TrimEdges.l1 k l ahead all s (rolesZ true l) (List.replicate ahead.length 0 ++ (rolesZ true l ++ z)) (i : Int)) true := by
  have hzl := rolesZ_len true l
  intro r
  induction r with
  | zero =>
    intro i hi
    rw [show i = l.length by omega]
    exact Ev.step hF hE
  | succ r ih =>
    intro i hi
    refine Ev.step (fun k => ?_) (ih (i + 1) (by omega))
    have hw : wrap64 ((ahead.length : Int) + (i : Int)) = ((ahead.length + i : Nat) : Int) := by rw [ws (by omega) (by omega)]; omega
    have hlen : (List.replicate ahead.length (0 : Int) ++ (rolesZ true l ++ z)).length = ahead.length + (l.length + z.length) := by simp [hzl]
    have hrd : rd (rolesZ true l) (i : Int) = rd (List.replicate ahead.length 0 ++ (rolesZ true l ++ z)) ((ahead.length + i : Nat) : Int) := by
      rw [rd_int _ (by omega), rd_int _ (by omega), List.getElem_append_right (by simp), List.getElem_append_left (by simp; omega)]
      congr 1
      simp
    simp only [stickfullaw13_TrimEdges.l1]
    rw [if_pos (by omega), if_pos (by omega), if_pos (by omega), hw, if_pos (by omega), if_pos (by omega), if_pos hrd, w1 (by omega)]
def sumT (ahead behind : List S35) (n i : Nat) : Int := sumF (ahead.take i) + sumF (behind.take (i - n))
theorem sumF_take (l : List S35) {i : Nat} (hi : i < l.length) : sumF (l.take (i + 1)) = sumF (l.take i) + l[i].f3 := by
  unfold sumF
  rw [List.take_add_one, List.getElem?_eq_getElem hi, List.map_append, List.sum_append]
  simp
theorem plain_all {l : List S35} (h : ∀ j, j < l.length → plain (rd_T35 l (j : Int))) : ∀ c ∈ l, plain c := fun c hc => by
  obtain ⟨j, hj, rfl⟩ := List.getElem_of_mem hc
  have := h j hj
  rw [rd_nat l hj] at this
  exact this
theorem edges_l0 {l ahead behind : List S35} (hl : l.length ≤ 150) (ha : ahead.length ≤ 50) (hb : behind.length ≤ 50) (ea : ahead.all edgeB = true) (eb : behind.all edgeB = true) (hok : ∀ c ∈ ahead ++ (l ++ behind), okC c) :
    ∀ (r i : Nat), i + r = (ahead ++ (l ++ behind)).length → (∀ j, j < i → plain (rd_T35 (ahead ++ (l ++ behind)) (j : Int))) → -(i * 1099511627776) ≤ sumT ahead behind (ahead.length + l.length) i → sumT ahead behind (ahead.length + l.length) i ≤ i * 1099511627776 →
    Ev (fun k => stickfullaw13_TrimEdges.l0 k l ahead (ahead ++ (l ++ behind)) (sumT ahead behind (ahead.length + l.length) i) (i : Int)) true := by
  have hlen : (ahead ++ (l ++ behind)).length = ahead.length + (l.length + behind.length) := by simp
  have hw0 : wrap64 ((ahead.length : Int) + (l.length : Int)) = ((ahead.length + l.length : Nat) : Int) := by rw [ws (by omega) (by omega)]; omega
  intro r
  induction r with
  | zero =>
    intro i hi hp b1 b2
    have hpl : ∀ c ∈ ahead ++ (l ++ behind), plain c := plain_all (fun j hj => hp j (by omega))
    have hpl2 : ∀ c ∈ l, plain c := fun c hc => hpl c (by simp [hc])
    have hok2 : ∀ c ∈ l, okC c := fun c hc => hok c (by simp [hc])
    have eS : sumT ahead behind (ahead.length + l.length) i = sumF ahead + sumF behind := by
      unfold sumT
      rw [List.take_of_length_le (by omega), List.take_of_length_le (by omega)]
    have eR : rolesZ true (ahead ++ (l ++ behind)) = List.replicate ahead.length 0 ++ (rolesZ true l ++ List.replicate behind.length 0) := by rw [roles_ahead true ahead _ ea, roles_behind behind eb]
    have eL := rolesZ_len true l
    have eRl : (rolesZ true (ahead ++ (l ++ behind))).length = (ahead ++ (l ++ behind)).length := rolesZ_len _ _
    rw [eS] at b1 b2 ⊢
    have hin : in64 0 := by unfold in64; omega
    have g1 := fits_eq (x := 0) (by omega) hok2 hin
    have g2 := fits_eq (x := 0) (by omega) hok hin
    have g3 := goes_eq (x := 0) (by omega) hok2 hin
    have g4 := goes_eq (x := 0) (by omega) hok hin
    rw [end_sum hpl2 (by omega) (by rw [List.length_map, eL])] at g1
    rw [end_sum hpl (by omega) (by rw [List.length_map, eRl])] at g2
    rw [end_sum hpl2 (by omega) eL] at g3
    rw [end_sum hpl (by omega) eRl] at g4
    rw [eR] at g2 g4
    have z0 : ∀ n : Nat, (List.replicate n (0 : Int)).map unH = List.replicate n 0 := fun n => by rw [List.map_replicate]; rfl
    rw [List.map_append, List.map_append, z0, z0, wS_append _ _ _ _ (by simp), wS_append _ _ _ _ (by simp [eL]), wS_zero, wS_zero] at g2
    rw [wS_append _ _ _ _ (by simp), wS_append _ _ _ _ eL, wS_zero, wS_zero] at g4
    refine Ev.step (f := fun k => (trim_Roles.f l).bind fun t378 => ((trim_Roles.f (ahead ++ (l ++ behind))).bind fun t381 => (if (t381.length : Int) = ((ahead ++ (l ++ behind)).length : Int) then (stickfullaw13_TrimEdges.j3 k l ahead (ahead ++ (l ++ behind)) (sumF ahead + sumF behind) t378 t381 ((t378.length : Int) != (l.length : Int))) else (stickfullaw13_TrimEdges.j3 k l ahead (ahead ++ (l ++ behind)) (sumF ahead + sumF behind) t378 t381 true)))) (fun k => ?_) ?_
    · simp only [stickfullaw13_TrimEdges.l0]
      rw [if_neg (by omega)]
    · rw [roles_ev (by omega), roles_ev (by omega)]
      refine Ev.bind (a := rolesZ true l) (Ev.now _) ?_
      refine Ev.bind (a := rolesZ true (ahead ++ (l ++ behind))) (Ev.now _) ?_
      refine Ev.congr (fun k => if_pos (by rw [eRl])) ?_
      have e0 : (((rolesZ true l).length : Int) != (l.length : Int)) = false := by rw [eL]; simp
      rw [e0]
      refine Ev.step (f := fun k => stickfullaw13_TrimEdges.l1 k l ahead (ahead ++ (l ++ behind)) (sumF ahead + sumF behind) (rolesZ true l) (rolesZ true (ahead ++ (l ++ behind))) 0) (fun k => ?_) ?_
      · simp only [stickfullaw13_TrimEdges.j3]
        rw [if_neg (by decide)]
      · rw [eR]
        refine edges_l1 l ahead (ahead ++ (l ++ behind)) (sumF ahead + sumF behind) (List.replicate behind.length 0) hl ha (by simp; exact hb) (F := fun k => (stickfullaw13_head.f k).bind fun t => some t) (fun k => ?_) head_ev2 l.length 0 (by omega)
        simp only [stickfullaw13_TrimEdges.l1]
        have bnd : ∀ (rs : List Int) (m : List S35), (∀ c ∈ m, plain c) → m.length ≤ 1000 → -1099511627776000 ≤ wS rs m ∧ wS rs m ≤ 1099511627776000 := by
          intro rs m hm hml
          have : ∀ (rs : List Int) (m : List S35), (∀ c ∈ m, plain c) → -(m.length * 1099511627776) ≤ wS rs m ∧ wS rs m ≤ m.length * 1099511627776 := by
            intro rs
            induction rs with
            | nil => intro m _; cases m <;> simp only [wS, List.length_cons, List.length_nil] <;> constructor <;> omega
            | cons r rs ihh =>
              intro m hm
              cases m with
              | nil => simp [wS]
              | cons c m =>
                obtain ⟨k1, k2⟩ := ihh m (fun d hd => hm d (List.mem_cons_of_mem _ hd))
                obtain ⟨p1, p2, p3⟩ := hm c (List.mem_cons_self ..)
                simp only [wS, List.length_cons]
                split <;> constructor <;> omega
          have := this rs m hm
          omega
        have n1 := bnd ((rolesZ true l).map unH) l hpl2 (by omega)
        have n2 := bnd (rolesZ true l) l hpl2 (by omega)
        rw [if_neg (by omega), g1, g2, g3, g4]
        simp only [Option.bind_some, if_true]
        rw [if_pos (by rw [ws (by omega) (by omega)]; omega), if_pos (by rw [ws (by omega) (by omega)]; omega)]
  | succ r ih =>
    intro i hi hp b1 b2
    have hil : i < (ahead ++ (l ++ behind)).length := by omega
    have j2t : Ev (fun k => stickfullaw13_TrimEdges.j2 k l ahead (ahead ++ (l ++ behind)) (sumT ahead behind (ahead.length + l.length) i) (i : Int) true) true := by
      refine Ev.step (fun k => ?_) head_ev2
      simp only [stickfullaw13_TrimEdges.j2]
      rw [if_pos trivial]
    by_cases c1 : (rd_T35 (ahead ++ (l ++ behind)) (i : Int)).f3 > 1099511627776
    · refine Ev.step (fun k => ?_) j2t
      simp only [stickfullaw13_TrimEdges.l0]
      rw [if_pos (by omega), if_pos (by omega), if_pos c1]
    · by_cases c2 : (rd_T35 (ahead ++ (l ++ behind)) (i : Int)).f3 < -1099511627776
      · refine Ev.step (fun k => ?_) j2t
        simp only [stickfullaw13_TrimEdges.l0]
        rw [if_pos (by omega), if_pos (by omega), if_neg c1, if_pos c2]
      · by_cases c3 : (rd_T35 (ahead ++ (l ++ behind)) (i : Int)).f0 = 4
        · refine Ev.step (fun k => ?_) j2t
          simp only [stickfullaw13_TrimEdges.l0]
          rw [if_pos (by omega), if_pos (by omega), if_neg c1, if_neg c2, show ((rd_T35 (ahead ++ (l ++ behind)) (i : Int)).f0 == 4) = true by simpa using c3]
        · have hpl : plain (rd_T35 (ahead ++ (l ++ behind)) (i : Int)) := ⟨by omega, by omega, c3⟩
          have hp2 : ∀ j, j < i + 1 → plain (rd_T35 (ahead ++ (l ++ behind)) (j : Int)) := fun j hj => by
            by_cases hji : j = i
            · subst hji; exact hpl
            · exact hp j (by omega)
          have eT : sumT ahead behind (ahead.length + l.length) (i + 1) = sumT ahead behind (ahead.length + l.length) i + (if i < ahead.length ∨ ahead.length + l.length ≤ i then (rd_T35 (ahead ++ (l ++ behind)) (i : Int)).f3 else 0) := by
            unfold sumT
            by_cases q1 : i < ahead.length
            · rw [if_pos (.inl q1), sumF_take ahead q1, show i + 1 - (ahead.length + l.length) = i - (ahead.length + l.length) by omega, rd_nat _ hil, List.getElem_append_left q1]
              omega
            · by_cases q2 : ahead.length + l.length ≤ i
              · rw [if_pos (.inr q2), List.take_of_length_le (by omega), List.take_of_length_le (l := ahead) (by omega), show i + 1 - (ahead.length + l.length) = (i - (ahead.length + l.length)) + 1 by omega, sumF_take behind (by omega), rd_nat _ hil, List.getElem_append_right (by omega), List.getElem_append_right (by omega)]
                have : behind[i - (ahead.length + l.length)]'(by omega) = behind[i - ahead.length - l.length]'(by omega) := by congr 1; omega
                rw [this]
                omega
              · rw [if_neg (by omega), List.take_of_length_le (l := ahead) (by omega), List.take_of_length_le (l := ahead) (by omega), show i + 1 - (ahead.length + l.length) = i - (ahead.length + l.length) by omega]
                omega
          obtain ⟨p1, p2, _⟩ := hpl
          have hih := ih (i + 1) (by omega) hp2 (by rw [eT]; split <;> omega) (by rw [eT]; split <;> omega)
          refine Ev.step (f := fun k => stickfullaw13_TrimEdges.j2 k l ahead (ahead ++ (l ++ behind)) (sumT ahead behind (ahead.length + l.length) i) (i : Int) false) (fun k => ?_) (Ev.step (fun k => ?_) hih)
          · simp only [stickfullaw13_TrimEdges.l0]
            rw [if_pos (by omega), if_pos (by omega), if_neg c1, if_neg c2, show ((rd_T35 (ahead ++ (l ++ behind)) (i : Int)).f0 == 4) = false by simpa using c3]
          · simp only [stickfullaw13_TrimEdges.j2]
            rw [if_neg (by decide), eT, w1 (by omega), hw0]
            by_cases q1 : i < ahead.length
            · rw [if_pos (show (i : Int) < (ahead.length : Int) by omega), if_pos (by omega), if_pos (by omega), if_pos (.inl q1), ws (by omega) (by omega)]
            · rw [if_neg (show ¬ (i : Int) < (ahead.length : Int) by omega)]
              by_cases q2 : ahead.length + l.length ≤ i
              · rw [if_pos (by omega), if_pos (by omega), if_pos (by omega), if_pos (.inr q2), ws (by omega) (by omega)]
              · rw [if_neg (by omega), if_neg (by omega), Int.add_zero]
theorem TrimEdges : stickfullaw13_TrimEdges.Pure := by
  intro l ahead behind hl ha hb
  refine Ev.rounds (r := true) ?_
  show Ev (fun k => stickfullaw13_TrimEdges.f k l ahead behind) true
  have htrue : Ev (fun k => stickfullaw13_TrimEdges.j0 k l ahead behind true) true := by
    refine Ev.step (fun k => ?_) head_ev2
    simp only [stickfullaw13_TrimEdges.j0]
    rw [if_pos trivial]
  unfold stickfullaw13_TrimEdges.f
  by_cases h1 : (l.length : Int) > 150
  · exact Ev.congr (fun k => if_pos h1) htrue
  · by_cases h2 : (ahead.length : Int) > 50
    · exact Ev.congr (fun k => (if_neg h1).trans (if_pos h2)) htrue
    · by_cases h3 : (behind.length : Int) > 50
      · exact Ev.congr (fun k => (if_neg h1).trans ((if_neg h2).trans (if_pos h3))) htrue
      · refine Ev.congr (fun k => (if_neg h1).trans ((if_neg h2).trans (if_neg h3))) ?_
        refine Ev.bind (some_ev ahead (by omega)) (Ev.bind (some_ev behind (by omega)) ?_)
        have k1 := cnt_le ahead
        have k2 := cnt_le behind
        have hw : wrap64 (((cnt ahead : Nat) : Int) + ((cnt behind : Nat) : Int)) = ((cnt ahead + cnt behind : Nat) : Int) := by rw [ws (by omega) (by omega)]; omega
        rw [hw]
        by_cases h4 : ((cnt ahead + cnt behind : Nat) : Int) > 0
        · rw [decide_eq_true h4]; exact htrue
        · rw [decide_eq_false h4]
          have ea : ahead.all edgeB = true := cnt_zero (by omega)
          have eb : behind.all edgeB = true := cnt_zero (by omega)
          have hok : ∀ c ∈ ahead ++ (l ++ behind), okC c := fun c hc => by
            rcases List.mem_append.1 hc with h | h
            · exact okC_of (ha.2.2 c h)
            · rcases List.mem_append.1 h with h | h
              · exact okC_of (hl.2.2 c h)
              · exact okC_of (hb.2.2 c h)
          have hE := edges_l0 (l := l) (by omega) (by omega) (by omega) ea eb hok (ahead ++ (l ++ behind)).length 0 (by omega) (fun j hj => by omega) (by simp [sumT, sumF]) (by simp [sumT, sumF])
          have e0 : sumT ahead behind (ahead.length + l.length) 0 = 0 := by simp [sumT, sumF]
          rw [e0] at hE
          refine Ev.step (fun k => ?_) hE
          simp only [stickfullaw13_TrimEdges.j0]
          rw [if_neg (by decide)]
          simp only [Option.bind_some, List.nil_append, List.append_assoc]
          have q1 : ([] : List S35).length + ahead.length < 3518437208883 := by simp; omega
          rw [if_pos q1, if_pos (by omega), if_pos (by simp; omega)]
          rfl
end Go.Proofs.Ytkegnlidlabjeaa.Pure
