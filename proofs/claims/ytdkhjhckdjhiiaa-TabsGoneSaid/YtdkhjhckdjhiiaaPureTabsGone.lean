/- What is taken out is as if it were not there: the plain law. No condition of its own. -/
import Derived.Test.YtdkhjhckdjhiiaaPureTb2
import Derived.Test.YtdkhjhckdjhiiaaSayTabsGone
namespace Go.Proofs.Ytdkhjhckdjhiiaa.Pure
set_option linter.unusedVariables false
open Go.RowKit Go.Proofs.YtdkhjhckdjhiiaaW.PrintWords Go.Proofs.YtdkhjhckdjhiiaaW.PrintLast Go.Proofs.YtdkhjhckdjhiiaaW.PrintMore Go.Proofs.Ytdkhjhckdjhiiaa.Hand Go.Proofs.Ytdkhjhckdjhiiaa.HTabs
/-- The row without what is taken out. -/
def keepL (rs : List Int) : List S31 → Nat → List S31
  | [], _ => []
  | c :: l, i => if roleAt rs i = 1 then keepL rs l (i + 1) else c :: keepL rs l (i + 1)
/-- Pens of the row, from those of what is left. -/
def expand (rs : List Int) : List S31 → Nat → Int → List Int → List Int
  | [], _, _, _ => []
  | _ :: l, i, x, zs => if roleAt rs i = 1 then x :: expand rs l (i + 1) x zs else match zs with
    | [] => []
    | z :: zs => z :: expand rs l (i + 1) z zs
theorem walk_keep (rs : List Int) : ∀ (l : List S31) (i : Nat) (x : Int), walk rs l i x = (walk0 (keepL rs l i) x).map (expand rs l i x)
  | [], i, x => by simp [walk, keepL, walk0, expand]
  | c :: l, i, x => by
    simp only [walk, keepL, nxtR]
    by_cases h : roleAt rs i = 1
    · rw [if_pos h, if_pos h]
      simp only [Option.bind_some]
      rw [walk_keep rs l (i + 1) x]
      cases walk0 (keepL rs l (i + 1)) x with
      | none => rfl
      | some zs => simp only [Option.map_some, expand]; rw [if_pos h]
    · rw [if_neg h, if_neg h]
      simp only [walk0]
      cases nxt c x with
      | none => rfl
      | some y =>
        simp only [Option.bind_some]
        rw [walk_keep rs l (i + 1) y]
        cases walk0 (keepL rs l (i + 1)) y with
        | none => rfl
        | some zs => simp only [Option.map_some, expand]; rw [if_neg h]
theorem keep_sub (rs : List Int) : ∀ (l : List S31) (i : Nat), ∀ c ∈ keepL rs l i, c ∈ l
  | [], i, c, h => by simp [keepL] at h
  | d :: l, i, c, h => by
    simp only [keepL] at h
    split at h
    · exact List.mem_cons_of_mem _ (keep_sub rs l (i + 1) c h)
    · rcases List.mem_cons.1 h with rfl | h
      · exact List.mem_cons_self ..
      · exact List.mem_cons_of_mem _ (keep_sub rs l (i + 1) c h)
theorem keep_len (rs : List Int) : ∀ (l : List S31) (i : Nat), (keepL rs l i).length ≤ l.length
  | [], i => by simp [keepL]
  | d :: l, i => by
    have := keep_len rs l (i + 1)
    simp only [keepL]
    split <;> simp <;> omega
theorem drop31 (l : List S31) (k : Nat) (h : k < l.length) : l.drop k = rd_T31 l (k : Int) :: l.drop (k + 1) := by
  unfold rd_T31
  rw [List.drop_eq_getElem_cons h]
  simp [List.getD, h]
theorem rd_drop {l : List Int} {k : Nat} {y : Int} {ys : List Int} (h : l.drop k = y :: ys) : rd l (k : Int) = y ∧ k < l.length ∧ l.drop (k + 1) = ys := by
  have hk : k < l.length := by
    have := congrArg List.length h
    rw [List.length_drop, List.length_cons] at this
    omega
  rw [List.drop_eq_getElem_cons hk] at h
  injection h with h1 h2
  refine ⟨?_, hk, h2⟩
  unfold rd
  simp [List.getD, hk, h1]
theorem role_ge {rs : List Int} {i : Nat} (h : (i : Int) ≥ (rs.length : Int)) : roleAt rs i = 0 := by
  unfold roleAt
  rw [if_neg (by omega)]
theorem role_lt {rs : List Int} {i : Nat} (h : ¬ (i : Int) ≥ (rs.length : Int)) : roleAt rs i = rd rs (i : Int) := by
  unfold roleAt
  rw [if_pos (by omega)]
/-- The last loop: pen by pen. -/
theorem gone_l1 (rs : List Int) (l : List S31) (a b : List Int) (x : Int) (hl : l.length ≤ 200) (ha : a.length = l.length + 1) (hb : b.length ≤ 1000) (ha0 : rd a 0 = x) (hb0 : rd b 0 = x) (hbl : 0 < b.length) :
    ∀ (r i kk : Nat) (cur : Int) (zs : List Int), i + r = l.length → b.drop kk = cur :: zs → a.drop (i + 1) = expand rs (l.drop i) i cur zs → Ev (fun k => stickfullaw12_TabsGone.l1 k l rs a b (kk : Int) (i : Int)) true := by
  intro r
  induction r with
  | zero =>
    intro i kk cur zs hi hd he
    refine Ev.step (fun k => ?_) head_ev2
    simp only [stickfullaw12_TabsGone.l1]
    rw [if_neg (by omega), if_pos (by omega), if_pos (by omega), if_pos (by rw [ha0, hb0])]
  | succ r ih =>
    intro i kk cur zs hi hd he
    obtain ⟨hc1, hc2, hc3⟩ := rd_drop hd
    rw [drop31 l i (by omega)] at he
    simp only [expand] at he
    by_cases hr : roleAt rs i = 1
    · rw [if_pos hr] at he
      obtain ⟨h1, h2, h3⟩ := rd_drop he
      have hge : ¬ (i : Int) ≥ (rs.length : Int) := fun h => by rw [role_ge h] at hr; cases hr
      have hrd : rd rs (i : Int) = 1 := by rw [← role_lt hge]; exact hr
      refine Ev.step (fun k => ?_) (Ev.step (f := fun k => stickfullaw12_TabsGone.l1 k l rs a b (kk : Int) ((i + 1 : Nat) : Int)) (fun k => ?_) (ih (i + 1) kk cur zs (by omega) hd h3)) (f := fun k => stickfullaw12_TabsGone.j4 k l rs a b (kk : Int) (i : Int) false)
      · simp only [stickfullaw12_TabsGone.l1]
        rw [if_pos (by omega), if_neg hge, if_pos (by omega), if_pos (by omega), hrd]
        rfl
      · simp only [stickfullaw12_TabsGone.j4]
        rw [if_neg (by decide), w1 (by omega), if_pos (by omega), if_pos (by omega), if_pos (by omega), if_pos (by omega), if_pos (by rw [h1, hc1])]
    · rw [if_neg hr] at he
      have hz : ∃ z zs', zs = z :: zs' := by
        cases zs with
        | nil =>
          have := congrArg List.length he
          rw [List.length_drop] at this
          simp at this
          omega
        | cons z zs' => exact ⟨z, zs', rfl⟩
      obtain ⟨z, zs', rfl⟩ := hz
      simp only at he
      obtain ⟨h1, h2, h3⟩ := rd_drop he
      obtain ⟨g1, g2, g3⟩ := rd_drop hc3
      refine Ev.step (fun k => ?_) (Ev.step (f := fun k => stickfullaw12_TabsGone.l1 k l rs a b ((kk + 1 : Nat) : Int) ((i + 1 : Nat) : Int)) (fun k => ?_) (ih (i + 1) (kk + 1) z zs' (by omega) hc3 h3)) (f := fun k => stickfullaw12_TabsGone.j4 k l rs a b (kk : Int) (i : Int) true)
      · simp only [stickfullaw12_TabsGone.l1]
        rw [if_pos (by omega)]
        by_cases hge : (i : Int) ≥ (rs.length : Int)
        · rw [if_pos hge]
        · have hrd : ¬ rd rs (i : Int) = 1 := by rw [← role_lt hge]; exact hr
          rw [if_neg hge, if_pos (by omega), if_pos (by omega), bne_iff_ne.2 hrd]
      · simp only [stickfullaw12_TabsGone.j4]
        rw [if_pos trivial, w1 (by omega), w1 (by omega), if_pos (by omega), if_pos (by omega), if_pos (by omega), if_pos (by omega), if_pos (by rw [h1, g1])]
theorem gone_l0 {l : List S31} {rs : List Int} {x : Int} (hlen : l.length ≤ 200) (hok : ∀ d ∈ l, okC d) (hx : in64 x) :
    ∀ (r i : Nat) (acc : List S31), i + r = l.length → acc ++ keepL rs (l.drop i) i = keepL rs l 0 → Ev (fun k => stickfullaw12_TabsGone.l0 k l rs x acc (i : Int)) true := by
  intro r
  induction r with
  | zero =>
    intro i acc hi hacc
    rw [show l.drop i = [] by rw [show i = l.length by omega]; simp] at hacc
    simp only [keepL, List.append_nil] at hacc
    subst hacc
    have hkl := keep_len rs l 0
    refine Ev.step (f := fun k => (tabs_Pens.f l rs x).bind fun a => (tabs_Pens.f (keepL rs l 0) [] x).bind fun b => if a.2 = 0 then (if b.2 = 0 then (if (a.1.length : Int) = wrap64 ((l.length : Int) + 1) then stickfullaw12_TabsGone.j2 k l rs a.1 b.1 ((b.1.length : Int) != wrap64 (((keepL rs l 0).length : Int) + 1)) else stickfullaw12_TabsGone.j2 k l rs a.1 b.1 true) else stickfullaw12_TabsGone.j2 k l rs a.1 b.1 true) else (if b.2 = 0 then (if a.2 = 2 then (stickfullaw12_head.f k).bind fun t => some t else some false) else (stickfullaw12_head.f k).bind fun t => some t)) (fun k => ?_) ?_
    · simp only [stickfullaw12_TabsGone.l0]
      rw [if_neg (by omega)]
    · refine Ev.bind (a := pensR rs l x) (Ev.congr (fun _ => pens_eq (by omega) hok hx) (Ev.now _)) ?_
      refine Ev.bind (a := pensR [] (keepL rs l 0) x) (Ev.congr (fun _ => pens_eq (by omega) (fun d hd => hok d (keep_sub rs l 0 d hd)) hx) (Ev.now _)) ?_
      rcases pensR_or rs l x with ⟨e, he, hor, hr⟩ | ⟨ys, hr, hw, hf, hb⟩
      · rw [hr]
        refine Ev.congr (fun k => if_neg he) ?_
        by_cases h2 : (pensR [] (keepL rs l 0) x).2 = 0
        · refine Ev.congr (fun k => if_pos h2) ?_
          rcases hor with rfl | rfl
          · exact Ev.congr (fun k => if_pos rfl) head_ev2
          · exfalso
            -- the row may be, and has no pens: nor has what is left
            rcases pensR_or [] (keepL rs l 0) x with ⟨e2, he2, _, hr2⟩ | ⟨zs, hr2, hw2, hf2, hb2⟩
            · rw [hr2] at h2; exact he2 h2
            · rw [walk_nil] at hw2
              unfold pensR at hr
              by_cases hbl : l.any badTab = true
              · rw [if_pos hbl] at hr; cases hr
              · rw [if_neg hbl, if_pos hf2, walk_keep, hw2] at hr
                cases hr
        · exact Ev.congr (fun k => if_neg h2) head_ev2
      · rw [walk_keep] at hw
        obtain ⟨zs, hz, hy⟩ := Option.map_eq_some_iff.1 hw
        have hb2 : (keepL rs l 0).any badTab = false := by
          rw [List.any_eq_false] at hb ⊢
          exact fun d hd => hb d (keep_sub rs l 0 d hd)
        have hzl := walk0_len hz
        rw [hr, pensR_some (by rw [walk_nil]; exact hz) hf hb2]
        have hyl : ys.length = l.length := by
          have hlen2 : ∀ (l : List S31) (i : Nat) (x : Int) (zs : List Int), zs.length = (keepL rs l i).length → (expand rs l i x zs).length = l.length := by
            intro l
            induction l with
            | nil => intro i x zs _; rfl
            | cons c l ih =>
              intro i x zs h
              simp only [keepL] at h
              simp only [expand]
              by_cases hr : roleAt rs i = 1
              · rw [if_pos hr] at h ⊢
                simp [ih _ _ _ h]
              · rw [if_neg hr] at h ⊢
                cases zs with
                | nil => simp at h
                | cons z zs => simp at h ⊢; exact ih _ _ _ h
          rw [← hy]
          exact hlen2 l 0 x zs hzl
        refine Ev.congr (fun k => if_pos rfl) ?_
        refine Ev.congr (fun k => if_pos rfl) ?_
        refine Ev.congr (fun k => if_pos (by rw [w1 (by omega), List.length_cons, hyl])) ?_
        have e1 : (((x :: zs).length : Int) != wrap64 (((keepL rs l 0).length : Int) + 1)) = false := by
          rw [w1 (by omega), bne_eq_false_iff_eq, List.length_cons, hzl]
        rw [e1]
        refine Ev.step (fun k => ?_) (gone_l1 rs l (x :: ys) (x :: zs) x hlen (by simp [hyl]) (by simp; omega) rfl rfl (by simp) l.length 0 0 x zs (by omega) rfl (by rw [← hy]; rfl))
        simp only [stickfullaw12_TabsGone.j2]
        rw [if_neg (by decide)]
        rfl
  | succ r ih =>
    intro i acc hi hacc
    rw [drop31 l i (by omega)] at hacc
    simp only [keepL] at hacc
    have hal : acc.length ≤ 200 := by
      have h1 := congrArg List.length hacc
      have h2 := keep_len rs l 0
      rw [List.length_append] at h1
      omega
    have heta : (⟨(rd_T31 l (i : Int)).f0, (rd_T31 l (i : Int)).f1, (rd_T31 l (i : Int)).f2, (rd_T31 l (i : Int)).f3, (rd_T31 l (i : Int)).f4, (rd_T31 l (i : Int)).f5⟩ : S31) = rd_T31 l (i : Int) := rfl
    by_cases hr : roleAt rs i = 1
    · rw [if_pos hr] at hacc
      have hge : ¬ (i : Int) ≥ (rs.length : Int) := fun h => by rw [role_ge h] at hr; cases hr
      have hrd : rd rs (i : Int) = 1 := by rw [← role_lt hge]; exact hr
      refine Ev.step (fun k => ?_) (ih (i + 1) acc (by omega) hacc)
      simp only [stickfullaw12_TabsGone.l0]
      rw [if_pos (by omega), if_neg hge, if_pos (by omega), if_pos (by omega), if_pos hrd, w1 (by omega)]
    · rw [if_neg hr] at hacc
      refine Ev.step (fun k => ?_) (ih (i + 1) (acc ++ [rd_T31 l (i : Int)]) (by omega) (by rw [List.append_assoc]; exact hacc))
      simp only [stickfullaw12_TabsGone.l0]
      rw [if_pos (by omega), heta]
      by_cases hge : (i : Int) ≥ (rs.length : Int)
      · rw [if_pos hge, if_pos (by omega), if_pos (by omega), w1 (by omega)]
      · have hrd : ¬ rd rs (i : Int) = 1 := by rw [← role_lt hge]; exact hr
        rw [if_neg hge, if_pos (by omega), if_pos (by omega), if_neg hrd, if_pos (by omega), w1 (by omega)]
theorem TabsGone : stickfullaw12_TabsGone.Pure := by
  intro l rs x hl hrs hx
  refine Ev.rounds (r := true) ?_
  show Ev (fun k => stickfullaw12_TabsGone.f k l rs x) true
  have hok : ∀ d ∈ l, okC d := fun d hd => okC_of (hl.2.2 d hd)
  have htrue : Ev (fun k => stickfullaw12_TabsGone.j0 k l rs x true) true := by
    refine Ev.step (fun k => ?_) head_ev2
    simp only [stickfullaw12_TabsGone.j0]
    rw [if_pos trivial]
  unfold stickfullaw12_TabsGone.f
  by_cases h1 : (l.length : Int) > 200
  · exact Ev.congr (fun k => if_pos h1) htrue
  · refine Ev.congr (fun k => if_neg h1) ?_
    by_cases h3 : (rs.length : Int) > 300
    · rw [decide_eq_true h3]; exact htrue
    · rw [decide_eq_false h3]
      refine Ev.step (fun k => ?_) (gone_l0 (rs := rs) (by omega) hok (i64_of hx) l.length 0 [] (by omega) rfl)
      simp only [stickfullaw12_TabsGone.j0]
      rw [if_neg (by decide)]
      rfl
end Go.Proofs.Ytdkhjhckdjhiiaa.Pure
