/- The pens of a row are those of its beginning, and from there on those of the rest, cut anywhere: the plain law. No condition of its own. -/
import Derived.Test.YtdkhjhckdjhiiaaPureTb2
import Derived.Test.YtdkhjhckdjhiiaaSayTabsParts
namespace Go.Proofs.Ytdkhjhckdjhiiaa.Pure
open Go.RowKit Go.Proofs.YtdkhjhckdjhiiaaW.PrintWords Go.Proofs.YtdkhjhckdjhiiaaW.PrintLast Go.Proofs.YtdkhjhckdjhiiaaW.PrintMore Go.Proofs.Ytdkhjhckdjhiiaa.Hand Go.Proofs.Ytdkhjhckdjhiiaa.HTabs
theorem TabsParts : stickfullaw12_TabsParts.Pure := by
  intro l x c hl hx hc
  refine Ev.rounds (r := true) ?_
  show Ev (fun k => stickfullaw12_TabsParts.f k l x c) true
  have hx1 := i64_of hx
  have hc1 := u8_of hc
  have hok : ∀ d ∈ l, okC d := fun d hd => okC_of (hl.2.2 d hd)
  unfold stickfullaw12_TabsParts.f
  by_cases hlen : (l.length : Int) > 200
  · exact Ev.congr (fun k => if_pos hlen) head_ev2
  · have e1 : wrap64 ((l.length : Int) + 1) = (l.length : Int) + 1 := ws (by omega) (by omega)
    have e2 : wrap64 c = c := ws (by omega) (by omega)
    have e3 : Int.tmod c ((l.length : Int) + 1) = c % ((l.length : Int) + 1) := Int.tmod_eq_emod_of_nonneg hc1.1
    have h1 : 0 ≤ c % ((l.length : Int) + 1) := Int.emod_nonneg c (by omega)
    have h2 : c % ((l.length : Int) + 1) < (l.length : Int) + 1 := Int.emod_lt_of_pos c (by omega)
    simp only [e1, e2, e3]
    obtain ⟨m, hm⟩ := Int.eq_ofNat_of_zero_le h1
    rw [hm] at h1 h2 ⊢
    rw [pens_eq (by omega) hok hx1]
    refine Ev.congr (f := fun k => _) (fun k => if_neg hlen) ?_
    refine Ev.congr (f := fun k => _) (fun k => if_neg (by omega)) ?_
    simp only [Option.bind_some]
    rcases pensR_or [] l x with ⟨e, he, _, hr⟩ | ⟨ys, hr, hw, hf, hb⟩
    · rw [hr]
      refine Ev.congr (f := fun k => _) (fun k => if_neg he) ?_
      exact Ev.congr (f := fun k => _) (fun k => if_pos (by simp)) head_ev2
    · rw [hr]
      rw [walk_nil, ← List.take_append_drop m l, walk0_append] at hw
      obtain ⟨y1, hw1, hw2⟩ := Option.bind_eq_some_iff.1 hw
      obtain ⟨y2, hw3, hw4⟩ := Option.map_eq_some_iff.1 hw2
      have hb1 : (l.take m).any badTab = false := by
        rw [List.any_eq_false] at hb ⊢
        exact fun d hd => hb d (List.mem_of_mem_take hd)
      have hb2 : (l.drop m).any badTab = false := by
        rw [List.any_eq_false] at hb ⊢
        exact fun d hd => hb d (List.mem_of_mem_drop hd)
      have hf2 := (walk0_fits hf hw1).1
      have hl1 := walk0_len hw1
      have hl2 := walk0_len hw3
      rw [List.length_take, Nat.min_eq_left (by omega)] at hl1
      rw [List.length_drop] at hl2
      have p1 : tabs_Pens.f (l.take m) [] x = some (x :: y1, 0) := by
        rw [pens_eq (by rw [List.length_take]; omega) (fun d hd => hok d (List.mem_of_mem_take hd)) hx1, pensR_some (by rw [walk_nil]; exact hw1) hf hb1]
      have p2 : tabs_Pens.f (l.drop m) [] (lastD x y1) = some (lastD x y1 :: y2, 0) := by
        rw [pens_eq (by rw [List.length_drop]; omega) (fun d hd => hok d (List.mem_of_mem_drop hd)) (in_of_fits hf2), pensR_some (by rw [walk_nil]; exact hw3) hf2 hb2]
      have hrl : rd (x :: y1) ((m : Nat) : Int) = lastD x y1 := by rw [← hl1]; exact rd_last x y1
      refine Ev.congr (f := fun k => _) (fun k => if_pos rfl) ?_
      refine Ev.congr (f := fun k => _) (fun k => if_pos h1) ?_
      refine Ev.congr (f := fun k => _) (fun k => if_pos (by omega)) ?_
      rw [Int.toNat_natCast, p1]
      refine Ev.bind (Ev.now (x :: y1, (0 : Int))) ?_
      refine Ev.congr (f := fun k => _) (fun k => if_pos rfl) ?_
      refine Ev.congr (f := fun k => _) (fun k => if_pos (by rw [w1 (by omega), List.length_cons, hl1])) ?_
      refine Ev.congr (f := fun k => _) (fun k => if_pos (by simp)) ?_
      have hne : (rd (x :: y1) 0 != x) = false := by simp [rd]
      rw [hne]
      refine Ev.step (f := fun k => stickfullaw12_TabsParts.j1 k (x :: ys) (x :: y1) (lastD x y1 :: y2) false) (fun k => ?_) (Ev.step (f := fun k => (stickfulref12_Same.f k (x :: ys) (x :: ys)).bind fun t => if t = true then (stickfullaw12_head.f k).bind fun t => some t else some false) (fun k => ?_) (Ev.bind (same_ev (x :: ys) ?_) (Ev.congr (fun k => if_pos rfl) head_ev2)))
      · simp only [stickfullaw12_TabsParts.j0]
        rw [if_neg (by decide), if_pos (by omega), if_pos (by omega), if_pos (by rw [List.length_cons, hl1]; omega), Int.toNat_natCast, hrl, p2]
        simp only [Option.bind_some]
        rw [if_pos trivial]
        have e5 : wrap64 ((l.length : Int) - (m : Int)) = (l.length : Int) - (m : Int) := ws (by omega) (by omega)
        have e6 : wrap64 ((l.length : Int) - (m : Int) + 1) = (l.length : Int) - (m : Int) + 1 := ws (by omega) (by omega)
        have e4 : (((lastD x y1 :: y2).length : Int) != wrap64 (wrap64 ((l.length : Int) - (m : Int)) + 1)) = false := by
          rw [e5, e6, bne_eq_false_iff_eq, List.length_cons, hl2]
          omega
        rw [e4]
      · simp only [stickfullaw12_TabsParts.j1]
        rw [if_neg (by decide)]
        simp only [Option.bind_some, List.nil_append]
        rw [if_pos (by simp; omega)]
        rw [if_pos (by simp; omega)]
        rw [if_pos (by simp; omega)]
        have e7 : x :: y1 ++ (lastD x y1 :: y2).drop 1 = x :: ys := by simp [← hw4]
        rw [e7]
      · rw [← hw4]; simp; omega
end Go.Proofs.Ytdkhjhckdjhiiaa.Pure
